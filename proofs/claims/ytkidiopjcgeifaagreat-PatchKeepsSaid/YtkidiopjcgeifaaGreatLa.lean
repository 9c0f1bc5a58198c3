/- The abstract evaluator and plain laws, part 1. Condition: the table of types is the program's. -/
import Derived.Calls
import Derived.WalkKit
set_option linter.defProp false
set_option linter.unusedSimpArgs false
set_option linter.unusedVariables false
namespace Go
theorem WD{P:Prop}(h:P:=by omega):P:=h
theorem Vc{P:Prop}(h:P:=by decide):P:=h
theorem qr{P:Prop}(h:P:=by grind):P:=h
theorem AI{P:Prop}(h:P:=by simp):P:=h
theorem AN{P:Prop}(h:P:=by simp_all):P:=h
theorem Bk{P:Prop}(h:P:=by simp;omega):P:=h
abbrev acz:=@Option.some.injEq
abbrev acA:=@Bool.false_eq_true
abbrev acB:=@Bool.and_eq_true
abbrev acC:=@Nat.le_refl
abbrev acD:=@cond_true
abbrev acE:=@if_neg
abbrev acF:=@getElem!_pos
abbrev acG:=@Int.toNat_natCast
abbrev acH:=@List.getElem?_eq_getElem
abbrev acI:=@if_false
abbrev acJ:=@List.getElem?_eq_some_iff
abbrev acK:=@if_true
abbrev acL:=@if_pos
abbrev acM:=@beq_eq_false_iff_ne
abbrev acN:=@Array.getElem?_eq_some_iff
abbrev acO:=@cond_false
abbrev acP:=@decide_eq_true_eq
abbrev acQ:=@List.all_eq_true
abbrev acR:=@List.length_cons
abbrev acS:=@List.length_nil
abbrev acT:=@List.nil_append
abbrev acU:=@Nat.zero_le
abbrev acV:=@List.getElem?_cons_zero
abbrev acW:=@List.eq_nil_of_length_eq_zero
abbrev acX:=@decide_true
abbrev acY:=@congrArg
abbrev acZ:=@List.mem_append
abbrev ac0:=@List.drop_zero
abbrev ac1:=@List.cons_append
abbrev ac2:=@List.mem_cons
abbrev ac3:=@List.map_cons
abbrev ac4:=@Nat.mul_le_mul_right
abbrev ac5:=@List.drop_succ_cons
abbrev ac6:=@List.getElem?_append_left
abbrev ac7:=@List.length_append
abbrev ac8:=@Nat.zero_add
abbrev ac9:=@Nat.lt_or_ge
abbrev ada:=@beq_iff_eq
abbrev adb:=@Bool.not_true
abbrev adc:=@List.getElem?_cons_succ
abbrev ade:=@Bool.not_eq_true'
abbrev adf:=@Array.getElem?_eq_getElem
abbrev adg:=@decide_false
abbrev adh:=@List.getElem?_append_right
abbrev adi:=@Nat.le_trans
abbrev adj:=@List.mem_map
abbrev adk:=@List.mem_singleton
abbrev adl:=@List.mem_of_getElem?
abbrev adm:=@Bool.or_eq_true
abbrev adn:=@List.size_toArray
abbrev ado:=@Prod.mk.injEq
abbrev adp:=@Nat.eq_zero_or_pos
abbrev adq:=@Array.replicate_succ
abbrev adr:=@Array.replicate_zero
abbrev ads:=@Array.getElem?_toList
abbrev adt:=@List.mem_append_right
abbrev adu:=@List.getElem?_set_self
abbrev adv:=@Option.map_some
abbrev adw:=@List.append_toArray
abbrev adx:=@List.prefix_refl
abbrev ady:=@List.take_zero
abbrev adz:=@List.all_cons
abbrev adA:=@List.mem_cons_of_mem
abbrev adB:=@List.mem_append_left
abbrev adC:=@List.push_toArray
abbrev adD:=@List.mem_of_find?_eq_some
abbrev adE:=@Array.length_toList
abbrev adF:=@List.take_succ_cons
abbrev adG:=@Bool.not_false
abbrev adH:=@List.getD_eq_getElem?_getD
abbrev adI:=@Option.some.inj
abbrev adJ:=@List.length_map
abbrev adK:=@List.getElem?_map
abbrev adL:=@List.append_nil
abbrev adM:=@List.getElem?_take
abbrev adN:=@List.cons.injEq
abbrev adO:=@List.map_append
abbrev adP:=@List.take_succ_eq_append_getElem
abbrev adQ:=@Array.getD_eq_getD_getElem?
abbrev adR:=@List.getElem?_set
abbrev adS:=@List.find?_cons
abbrev adT:=@Bool.eq_false_iff
abbrev adU:=@beq_self_eq_true
abbrev adV:=@List.take_length
abbrev adW:=@List.map_map
abbrev adX:=@Option.map_eq_some_iff
abbrev adY:=@List.take_of_length_le
abbrev adZ:=@List.ext_getElem?
abbrev ad0:=@List.map_congr_left
abbrev ad1:=@List.nodup_cons
abbrev ad2:=@List.length_singleton
abbrev ad3:=@List.sizeOf_lt_of_mem
abbrev ad4:=@List.drop_append_of_le_length
abbrev ad5:=@List.getElem?_drop
abbrev ad6:=@Bool.true_eq_false
abbrev ad7:=@Option.bind_some
abbrev ad8:=@List.mem_cons_self
abbrev ad9:=@decide_eq_decide
abbrev aea:=@Bool.and_self
abbrev aeb:=@Bool.or_eq_false_iff
abbrev aec:=@List.append_assoc
abbrev aed:=@List.length_pos_iff
abbrev aee:=@List.ext_getElem
abbrev aef:=@List.getElem?_set_ne
abbrev aeg:=@List.flatMap_cons
abbrev aeh:=@decide_eq_false_iff_not
abbrev aei:=@List.length_take
abbrev aej:=@Bool.not_eq_true
abbrev aek:=@bne_iff_ne
abbrev ael:=@List.map_nil
abbrev aem:=@List.getElem?_toArray
abbrev aen:=@Bool.eq_iff_iff
abbrev aeo:=@List.contains_iff_mem
abbrev aep:=@Bool.true_and
abbrev aeq:=@and_true
abbrev aer:=@Bool.and_true
abbrev aes:=@Array.getElem?_append_left
abbrev aet:=@List.flatten_cons
abbrev aeu:=@List.take_take
abbrev aev:=@List.take_append
abbrev aew:=@List.getElem_of_mem
abbrev aex:=@List.map_take
abbrev aey:=@Bool.not_eq_false'
abbrev aez:=@List.length_set
abbrev aeA:=@List.pairwise_cons
abbrev aeB:=@List.find?_some
abbrev aeC:=@List.find?_eq_none
abbrev aeD:=@Nat.le_succ
abbrev aeE:=@List.find?_append
abbrev aeF:=@Nat.sub_self
abbrev aeG:=@Nat.add_zero
abbrev aeH:=@Array.getElem?_modify
abbrev aeI:=@List.getElem?_eq_none
abbrev aeJ:=@Option.getD_some
abbrev aeK:=@List.mem_filter
abbrev aeL:=@List.getElem?_eq_none_iff
abbrev aeM:=@List.mem_filterMap
abbrev aeN:=@Nat.sub_zero
abbrev aeO:=@List.filter_congr
abbrev aeP:=@List.nodup_append
abbrev aeQ:=@List.mem_flatMap
abbrev aeR:=@true_and
abbrev aeS:=@Array.all_eq_true_iff_forall_mem
abbrev aeT:=@List.map_fst_zip
abbrev aeU:=@Bool.and_eq_false_iff
abbrev aeV:=@List.length_filter_le
abbrev aeW:=@List.mem_iff_getElem?
abbrev aeX:=@List.foldl_cons
abbrev aeY:=@List.eq_nil_iff_forall_not_mem
abbrev aeZ:=@Nat.succ_mul
abbrev ae0:=@List.mem_of_mem_take
abbrev ae1:=@List.all_map
abbrev ae2:=@List.getElem!_eq_getElem?_getD
abbrev ae3:=@Bool.and_false
abbrev ae4:=@Bool.false_and
abbrev ae5:=@congrFun
abbrev ae6:=@List.map_drop
abbrev ae7:=@Int.lt_irrefl
abbrev ae8:=@Array.toList_push
abbrev ae9:=@Option.mem_toList
abbrev afa:=@Array.mapM_eq_mapM_toList
abbrev afb:=@and_self
abbrev afc:=@Nat.zero_mul
abbrev afd:=@List.length_drop
abbrev afe:=@List.getElem_zip
abbrev aff:=@Int.zero_add
abbrev afg:=@List.drop_length
abbrev afh:=@Nat.le_mul_of_pos_right
abbrev afi:=@Option.bind_eq_some_iff
abbrev afj:=@List.not_any_eq_all_not
abbrev afk:=@Int.le_refl
abbrev afl:=@List.take_drop
abbrev afm:=@decide_eq_true
abbrev afn:=@List.mapM_cons
abbrev afo:=@Nat.mod_lt
end Go
namespace Go.Av
inductive AV where
 |any
 |bool (b:Bool)
 |int (k:IntKind) (n:Int)
 |str (s:List UInt8)
 |nilp|nilf|nili
 |agg (cs:List AV)
 |tup (vs:List AV)
 |sl (es:List AV)
 |ip (cs:List AV)
 |hp (l off:Nat)
 |hs (l off len sz:Nat) (ag:Bool)
 |hn
 |fn (f:Fn) (first captured:List AV)
 |iface (t:TypeId) (v:AV)
 |mp (l:Nat)
 |nilm
 |nilb (t:Nat)
 |byt (t:Nat) (n:Int)
 |it (l:Nat)
 |he
 deriving Inhabited
structure RI (m:AV)
instance {m:AV}:CoeOut (RI m) AV:=⟨fun _=>m⟩
def qi(n:Int):RI (AV.int .i64 n):=⟨⟩
abbrev bQ:=Nat×Nat
abbrev az:=Nat->Nat->Option Value
def il(S:az)(b off:Nat)(vs:List Value):Prop:=∀(j:Nat)(v:Value),vs[j]? = some v->S b (off+j)=some v
mutual
def VR(S:az)(β:List bQ):AV->Value->Prop
 |.any,_=>True
 |.bool b,v=>v= .bool b
 |.int k n,v=>v= .int k n
 |.str s,v=>∃x:ByteArray,v= .string x/\x.data.toList=s
 |.nilp,v=>v= .pointer none
 |.nilf,v=>v= .nilFunc
 |.nili,v=>v= .nilIface
 |.agg cs,v=>∃vs:List Value,v= .agg vs.toArray/\be S β cs vs
 |.tup cs,v=>∃vs:List Value,v= .tuple vs.toArray/\be S β cs vs
 | .sl es,v=>∃a cap,v= .slice a es.length cap/\es.length<=cap/\
   (a=none->cap=0)/\∀q,a=some q->(0<cap->q.spot=none)/\∃sz,cr S β es q.block q.off sz
 |.ip cs,v=>∃b off vs,v= .pointer (some ⟨b,off,none⟩)/\be S β cs vs/\il S b off vs
 |.hp l off,v=>∃b:bQ,β[l]? = some b/\b.2≠0/\v= .pointer (some ⟨b.1,off,none⟩)
 |.hs l off len sz _,v=>(∃(b:bQ)(cap:Nat),β[l]? = some b/\b.2≠0/\v= .slice (some ⟨b.1,off,none⟩) len cap/\len<=cap/\off+cap*sz<=b.2)\/(len=0/\∃q,v= .slice (some q) 0 0)
 |.hn,v=>v= .slice none 0 0
 |.fn f a c,v=>∃x y:List Value,v= .func f x.toArray y.toArray/\be S β a x/\be S β c y
 |.iface t a,v=>∃x,v= .iface t x/\VR S β a x
 |.mp l,v=>∃b:bQ,β[l]? = some b/\b.2=0/\v= .map (some b.1)
 |.nilm,v=>v= .map none
 |.nilb _,v=>v= .pointer none
 |.byt _ n,v=>v= .int .u8 n
 |.it l,v=>∃b:bQ,β[l]? = some b/\b.2=0/\v= .pointer (some ⟨b.1,0,none⟩)
 |.he,v=>∃a,v= .slice a 0 0
def be(S:az)(β:List bQ):List AV->List Value->Prop
 |[],vs=>vs=[]
 |c:: cs,vs=>∃x xs,vs=x:: xs/\VR S β c x/\be S β cs xs
def cr(S:az)(β:List bQ):List AV->Nat->Nat->Nat->Prop
 |[],_,_,_=>True
 |e:: es,b,off,sz=>(∃v,VR S β e v/\v.cells.size=sz/\il S b off v.cells.toList)/\cr S β es b (off+sz) sz
end
def ab:AV->List AV
 |.agg cs=>cs
 |.any=>[]
 |x=>[x]
def cW:AV->Option Nat
 |.any=>none
 |.agg cs=>some cs.length
 |_=>some 1
def az.le(S S':az):Prop:=∀b o v,S b o=some v->S' b o=some v
def az.le_refl(S:az):S.le S:=fun _ _ _ h=>h
def az.le_trans{S T U:az}(h:S.le T)(g:T.le U):S.le U:=fun b o v x=>g b o v (h b o v x)
variable {vs:List Value}{b off:Nat}{S':az}
theorem il.mono{S:az}(h:S.le S')(c:il S b off vs):il S' b off vs:=
 fun j v x=>h _ _ _ (c j v x)
def ig(β β':List bQ):Prop:=∀(l:Nat)(b:bQ),β[l]? = some b->β'[l]? = some b
def ig.refl(β:List bQ):ig β β:=fun _ _ h=>h
def ig.nil(β:List bQ):ig [] β:=fun l b h=>by simp at h
def ig.trans{a b c:List bQ}(h:ig a b)(g:ig b c):ig a c:=fun l x y=>g l x (h l x y)
mutual
theorem VR.mono{S S':az}{β β':List bQ}(h:S.le S')(g:ig β β'):(a:AV)->(v:Value)->VR S β a v->VR S' β' a v
 |.any,_,_=>by simp[VR]
 |.bool _,_,x=>by simpa [VR]using x
 |.int _ _,_,x=>by simpa [VR]using x
 |.str _,_,x=>by simpa [VR]using x
 |.nilp,_,x=>by simpa [VR]using x
 |.nilf,_,x=>by simpa [VR]using x
 |.nili,_,x=>by simpa [VR]using x
 |.agg cs,v,x=>by
  simp only[VR]at x |-;obtain⟨vs,rfl,y⟩:=x;exact⟨vs,rfl,be.mono h g cs vs y⟩
 |.tup cs,v,x=>by
  simp only[VR]at x |-;obtain⟨vs,rfl,y⟩:=x;exact⟨vs,rfl,be.mono h g cs vs y⟩
 |.sl es,v,x=>by
  simp only[VR]at x |-;obtain⟨a,cap,rfl,hc,hn,hq⟩:=x;refine⟨a,cap,rfl,hc,hn,fun q e=>?_⟩;obtain⟨hs,sz,he⟩:=hq q e;exact⟨hs,sz,cr.mono h g es _ _ _ he⟩
 |.ip cs,v,x=>by
  simp only[VR]at x |-;obtain⟨b,off,vs,rfl,y,z⟩:=x;exact⟨b,off,vs,rfl,be.mono h g cs vs y,z.mono h⟩
 |.hp l off,v,x=>by
  simp only[VR]at x |-;obtain⟨b,hb,h0,rfl⟩:=x;exact⟨b,g l b hb,h0,rfl⟩
 |.hn,_,x=>by simpa [VR]using x
 |.hs l off len _ _,v,x=>by
  simp only[VR]at x |-;rcases x with⟨b,cap,hb,h0,rfl,hc,hs⟩|x
  ·exact .inl ⟨b,cap,g l b hb,h0,rfl,hc,hs⟩
  ·exact .inr x
 |.fn f a c,v,x=>by
  simp only[VR]at x |-;obtain⟨x,y,rfl,hx,hy⟩:=x;exact⟨x,y,rfl,be.mono h g a x hx,be.mono h g c y hy⟩
 |.iface t a,v,x=>by
  simp only[VR]at x |-;obtain⟨y,rfl,hy⟩:=x;exact⟨y,rfl,VR.mono h g a y hy⟩
 |.mp l,v,x=>by
  simp only[VR]at x |-;obtain⟨b,hb,h0,rfl⟩:=x;exact⟨b,g l b hb,h0,rfl⟩
 |.nilm,_,x=>by simpa [VR]using x
 |.nilb _,_,x=>by simpa [VR]using x
 |.byt _ _,_,x=>by simpa [VR]using x
 |.it l,v,x=>by
  simp only[VR]at x |-;obtain⟨b,hb,h0,rfl⟩:=x;exact⟨b,g l b hb,h0,rfl⟩
 |.he,_,x=>by simpa [VR]using x
theorem be.mono{S S':az}{β β':List bQ}(h:S.le S')(g:ig β β'):(cs:List AV)->(vs:List Value)->be S β cs vs->be S' β' cs vs
 |[],_,x=>by simpa [be]using x
 |c:: cs,vs,x=>by
  simp only[be]at x |-;obtain⟨y,ys,rfl,hy,hys⟩:=x;exact⟨y,ys,rfl,VR.mono h g c y hy,be.mono h g cs ys hys⟩
theorem cr.mono{S S':az}{β β':List bQ}(h:S.le S')(g:ig β β'):(es:List AV)->(b off sz:Nat)->cr S β es b off sz->cr S' β' es b off sz
 |[],_,_,_,_=>by simp[cr]
 |e:: es,b,off,sz,x=>by
  simp only[cr]at x |-;obtain⟨⟨v,hv,hs,hc⟩,hes⟩:=x;exact⟨⟨v,VR.mono h g e v hv,hs,hc.mono h⟩,cr.mono h g es b (off+sz) sz hes⟩
end
theorem be.length{S:az}{β:List bQ}:{cs:List AV} ->{vs:List Value} ->be S β cs vs->vs.length=cs.length
 |[],_,h=>by simp[be]at h;simp[h]
 |c:: cs,vs,h=>by
  simp only[be]at h;obtain⟨y,ys,rfl,_,hys⟩:=h;simp[be.length hys]
theorem be.get{S:az}{β:List bQ}:{cs:List AV} ->{vs:List Value} ->be S β cs vs->∀ {i:Nat} {c:AV},cs[i]? = some c->∃v,vs[i]? = some v/\VR S β c v
 |[],_,_,i,c,h=>by simp at h
 |c:: cs,vs,h,i,d,hd=>by
  simp only[be]at h;obtain⟨y,ys,rfl,hy,hys⟩:=h;cases i with
  |zero=>grind
  |succ i=>simpa using be.get hys (by simpa using hd)
theorem be.of_get{S:az}{β:List bQ}:{cs:List AV} ->{vs:List Value} ->vs.length=cs.length->
  (∀(i:Nat)(c:AV)(v:Value),cs[i]? = some c->vs[i]? = some v->VR S β c v)->be S β cs vs
 |[],vs,h,_=>by simp[be];simpa using h
 |c:: cs,[],h,_=>by simp at h
 |c:: cs,v:: vs,h,g=>by
  simp only[be];exact⟨v,vs,rfl,g 0 c v AI AI,be.of_get (by simpa using h) fun i c' v' h1 h2=>g (i+1) c' v' (by simpa using h1) (by simpa using h2)⟩
variable {cs:List AV}
def be.drop{S:az}{β:List bQ}(h:be S β cs vs)(n:Nat):be S β (cs.drop n) (vs.drop n):=by
 refine .of_get (by simp[h.length]) fun i c v hc hv=>?_;rw[ad5]at hc hv;obtain⟨v',hv',hr⟩:=h.get hc
 grind
def be.take{S:az}{β:List bQ}(h:be S β cs vs)(n:Nat):be S β (cs.take n) (vs.take n):=by
 refine .of_get (by simp[h.length]) fun i c v hc hv=>?_;rw[adM]at hc hv;split at hc
 ·rename_i hlt;rw[acL hlt]at hv;obtain⟨v',hv',hr⟩:=h.get hc
  grind
 ·simp at hc
def be.append{S:az}{β:List bQ}{ds:List AV}{ws:List Value}(h:be S β cs vs)(g:be S β ds ws):be S β (cs++ds) (vs++ws):=by
 induction cs generalizing vs with
 |nil=>simp[be]at h;grind
 |cons c cs ih=>
  simp only[be,ac1]at h|-
  grind
theorem VR.cells{S:az}{β:List bQ}{a:AV}{v:Value}(h:VR S β a v){n:Nat}(hn:cW a=some n):v.cells.size=n/\be S β (ab a) v.cells.toList/\(ab a).length=n:=by
 cases a<;>simp only[cW,acz,reduceCtorEq]at hn<;>subst hn<;>simp only[VR]at h<;>simp only[ab,be,VR]
 case agg cs=>
  obtain⟨vs,rfl,hv⟩:=h;simp[Value.cells,hv,hv.length]
 case bool=>subst h;simp[Value.cells]
 case hn=>subst h;simp[Value.cells]
 case int=>subst h;simp[Value.cells]
 case nilp=>subst h;simp[Value.cells]
 case nilf=>subst h;simp[Value.cells]
 case nili=>subst h;simp[Value.cells]
 case str=>obtain⟨x,rfl,hx⟩:=h;simp[Value.cells,hx]
 case tup=>obtain⟨x,rfl,hx⟩:=h;simp[Value.cells,hx]
 case hp=>obtain⟨b,hb,h0,rfl⟩:=h;exact⟨by simp[Value.cells],⟨_,_,rfl,⟨b,hb,h0,rfl⟩,rfl⟩,rfl⟩
 case mp=>obtain⟨b,hb,h0,rfl⟩:=h;exact⟨by simp[Value.cells],⟨_,_,rfl,⟨b,hb,h0,rfl⟩,rfl⟩,rfl⟩
 case it=>obtain⟨b,hb,h0,rfl⟩:=h;exact⟨by simp[Value.cells],⟨_,_,rfl,⟨b,hb,h0,rfl⟩,rfl⟩,rfl⟩
 case he=>obtain⟨a,rfl⟩:=h;exact⟨by simp[Value.cells],⟨_,_,rfl,⟨a,rfl⟩,rfl⟩,rfl⟩
 case nilm=>subst h;simp[Value.cells]
 case nilb=>subst h;simp[Value.cells]
 case byt=>subst h;simp[Value.cells]
 case hs=>
  rcases h with⟨b,c,hb,h0,rfl,hc⟩|⟨h0,q,rfl⟩
  ·exact⟨by simp[Value.cells],⟨_,_,rfl,.inl ⟨b,c,hb,h0,rfl,hc⟩,rfl⟩,rfl⟩
  ·exact⟨by simp[Value.cells],⟨_,_,rfl,.inr ⟨h0,q,rfl⟩,rfl⟩,rfl⟩
 case iface=>obtain⟨x,rfl,hx⟩:=h;simp[Value.cells,hx]
 case fn=>obtain⟨x,y,rfl,hx,hy⟩:=h;exact⟨by simp[Value.cells],⟨_,_,rfl,⟨x,y,rfl,hx,hy⟩,rfl⟩,rfl⟩
 case ip=>obtain⟨b,o,vs,rfl,hx,hc⟩:=h;exact⟨by simp[Value.cells],⟨_,_,rfl,⟨b,o,vs,rfl,hx,hc⟩,rfl⟩,rfl⟩
 case sl=>obtain⟨x,c,rfl,h1,h2,h3⟩:=h;exact⟨by simp[Value.cells],⟨_,_,rfl,⟨x,c,rfl,h1,h2,h3⟩,rfl⟩,rfl⟩
def VR.acells{S:az}{β:List bQ}{a:AV}{v:Value}(h:VR S β a v):∃vs:List Value,be S β (ab a) vs/\∀(j:Nat)(x:Value),vs[j]? = some x->v.cells.toList[j]? = some x:=by
 cases hs:cW a with
 |some n=>exact⟨_,(h.cells hs).2.1,fun _ _ h=>h⟩
 |none=>
  cases a<;>simp[cW]at hs;simp_all[Av.ab,be]
theorem cr.get{S:az}{β:List bQ}{sz:Nat}:{es:List AV} ->{off:Nat} ->cr S β es b off sz->∀ {i:Nat} {e:AV},es[i]? = some e->
  ∃v,VR S β e v/\v.cells.size=sz/\il S b (off+i*sz) v.cells.toList
 |[],_,_,i,e,h=>by simp at h
 | d:: es,off,h,i,e,he=>by
  simp only[cr]at h;obtain⟨⟨v,hv,hs,hc⟩,hes⟩:=h;cases i with
  |zero=>grind
  |succ i=>
   obtain⟨v',hv',hs',hc'⟩:=cr.get hes (i:=i) (by simpa using he)
   grind
theorem cr.of_get{S:az}{β:List bQ}{sz:Nat}:{es:List AV} ->{off:Nat} ->
  (∀i e,es[i]? = some e->∃v,VR S β e v/\v.cells.size=sz/\il S b (off+i*sz) v.cells.toList)->cr S β es b off sz
 |[],_,_=>by simp[cr]
 |d:: es,off,h=>by
  simp only[cr];refine⟨by simpa using h 0 d AI,.of_get fun i e he=>?_⟩;obtain⟨v',hv',hs',hc'⟩:=h (i+1) e (by simpa using he)
  grind
variable {es:List AV}
def cr.drop{S:az}{β:List bQ}{sz:Nat}(h:cr S β es b off sz)(n:Nat):cr S β (es.drop n) b (off+n*sz) sz:=by
 refine .of_get fun i e he=>?_;rw[ad5]at he;obtain⟨v,h1,h2,h3⟩:=h.get he
 grind
def cr.take{S:az}{β:List bQ}{sz:Nat}(h:cr S β es b off sz)(n:Nat):cr S β (es.take n) b off sz:=by
 refine .of_get fun i e he=>?_;rw[adM]at he;split at he
 ·exact h.get he
 ·simp at he
def cr.append{S:az}{β:List bQ}{fs:List AV}{sz:Nat}(h:cr S β es b off sz)(g:cr S β fs b (off+es.length*sz) sz):cr S β (es++fs) b off sz:=by
 refine .of_get fun i e he=>?_;rw[List.getElem?_append]at he;split at he
 ·exact h.get he
 ·rename_i hlt;obtain⟨v,h1,h2,h3⟩:=g.get he;refine⟨v,h1,h2,?_⟩;rw[show off+i*sz=off+es.length*sz+(i-es.length)*sz by rw[Nat.sub_mul];have:=ac4 sz (Nat.le_of_not_lt hlt);omega];exact h3
variable {l:Nat}
def VR.hs_some{S:az}{β:List bQ}{len sz:Nat}{ag:Bool}{v:Value}(h:VR S β (.hs l off len sz ag) v):∃q cap,v= .slice (some q) len cap/\len<=cap:=by
 grind [VR]
def VR.hs_pos{S:az}{β:List bQ}{len sz:Nat}{ag:Bool}{v:Value}(h:VR S β (.hs l off len sz ag) v)(h0:0<len):∃(b:bQ)(cap:Nat),β[l]? = some b/\b.2≠0/\v= .slice (some ⟨b.1,off,none⟩) len cap/\len<=cap/\off+cap*sz<=b.2:=by
 grind [VR]
abbrev Hp:=List (List AV)
inductive R (α:Type) where
 |ok (a:α) (h:Hp)
 |pan (v:AV) (h:Hp)
 |fail
def M(α:Type):=Hp->R α
variable {α:Type}
def ao(a:α):M α:=fun h=>.ok a h
def aG{β:Type}(m:M α)(f:α->M β):M β:=fun h=>
 match m h with
 |.ok a h'=>f a h'
 |.pan v h'=>.pan v h'
 |.fail=>.fail
def gk:M α:=fun _=>.fail
def bJ(o:Option α):M α:=fun h=>match o with|some a=>.ok a h|none=>.fail
def lz(v:AV):M α:=fun h=>.pan v h
def gW(c:AV)(x y:M α):M α:=match c with
 |.bool true=>x
 |.bool false=>y
 |_=>gk
def jn(k:List AV->M α)(m:(List AV->M α)->M α):M α:=m k
def dI(c:AV)(want:Bool)(n:Nat)(m:M (List AV)):M (List AV):=match c with
 |.bool b=>bif b== want then m else ao (List.replicate n (.tup []))
 |.tup []=>ao (List.replicate n (.tup []))
 |_=>gk
def dV{α:Type}:Nat->((List AV->M α)->List AV->M α)->List AV->M α
 |0,_,_=>gk
 |n+1,F,vs=>F (dV n F) vs
def aD(l:List AV)(i:Nat):AV:=l.getD i .any
theorem aj{β:Type}(a:α)(f:α->M β):aG (ao a) f=f a:=rfl
theorem af{β:Type}(a:α)(f:α->M β):aG (bJ (some a)) f=f a:=rfl
theorem Mi{β:Type}(f:α->M β):aG (gk) f=gk:=rfl
theorem Kh{β:Type}(v:AV)(f:α->M β):aG (lz v) f=lz v:=rfl
theorem kG{β γ:Type}(m:M α)(f:α->M β)(g:β->M γ):aG (aG m f) g=aG m fun a=>aG (f a) g:=by
 funext h;simp only[aG];grind
def Cy(m:M α):aG m ao=m:=by
 funext h;simp only[aG];cases hm:m h<;>rfl
def gN:Nat:=1
structure GOKw (w:World):Prop where
 max:∃m,w.cell? ⟨0,0,none⟩=some (.int .i64 m)
variable {w':World}
theorem GOKw.mono{w:World}(hk:∀b,b<gN->w'.heap[b]? = w.heap[b]?)(h:GOKw w):GOKw w':=by
 have hc:∀b,b<gN->∀o,w'.cell? ⟨b,o,none⟩=w.cell? ⟨b,o,none⟩:=fun b hb o=>by simp[World.cell?,hk b hb]
 exact⟨by rw[hc 0 Vc];exact h.max⟩
def GOKw.lt{w:World}(h:GOKw w):gN<=w.heap.size:=by
 obtain⟨m,hc⟩:=h.max;rcases ac9 0 w.heap.size with hl|hl
 ·exact hl
 ·simp[World.cell?,Array.getElem?_eq_none hl]at hc
def Jn:Nat->Option (List AV):=fun _=>none
def DW{w:World}(_:GOKw w):∀g cs,Jn g=some cs->∃vs,be (fun b o=>w.cell? ⟨b,o,none⟩) [] cs vs/\il (fun b o=>w.cell? ⟨b,o,none⟩) g 0 vs:=fun _ _ h=>by cases h
inductive TK where
 |other|bool|int (k:IntKind)|str|slice (elem:Nat)|struct|array (len elem:Nat)|iface|ptr|func|map (key elem:Nat)
structure TI where
 agg:Bool
 size:Nat
 bytes:Nat
 kind:TK
 offs:List (Nat×Nat×Bool):=[]
 zero:List AV:=[]
 eqok:Bool:=false
abbrev TT:=Nat->Option TI
def I3:Value->AV
 |.bool b=>.bool b
 |.int k n=>.int k n
 |.string s=>.str s.data.toList
 |.pointer none=>.nilp
 |.slice none 0 0=>.sl []
 |.nilFunc=>.nilf
 |.nilIface=>.nili
 |.map none=>.nilm
 |_=>.any
def cA:Value->AV
 |.agg cs=>.agg (cs.toList.map I3)
 |.tuple vs=>bif vs.isEmpty then .tup []else .any
 |v=>I3 v
def wn(ti:TI)(cs:List AV)(off:Nat):Option AV:=
 bif ti.agg then some (.agg ((cs.drop off).take ti.size))else cs[off]?
mutual
def vK(T:TT):Nat->Nat->AV->AV->Option Bool
 |0,_,_,_=>none
 | d+1,t,x,y=>match T t with
  |none=>none
  |some ti=>match ti.kind,x,y with
   |.bool,.bool a,.bool b=>some (a== b)
   |.int _,.int k a,.int k' b=>if k=k' then some (a== b)else none
   |.str,.str a,.str b=>some (a== b)
   |.ptr,.nilp,.nilp=>some true
   |.ptr,.nilp,.ip _=>some false
   |.ptr,.ip _,.nilp=>some false
   |.ptr,.nilp,.hp _ _=>some false
   |.ptr,.hp _ _,.nilp=>some false
   |.iface,.nili,.iface _ _=>some false
   |.iface,.iface _ _,.nili=>some false
   |.struct,.agg xs,.agg ys=>bif ti.eqok then Hu T d ti.offs xs ys else none
   |.slice _,.hn,.hn=>some true
   |.slice _,.sl (_:: _),.hn=>some false
   |.slice _,.hs _ _ _ _ _,.hn=>some false
   |.iface,.nili,.nili=>some true
   |_,_,_=>none
def Hu(T:TT):Nat->List (Nat×Nat×Bool)->List AV->List AV->Option Bool
 |_,[],_,_=>some true
 |0,_:: _,_,_=>none
 | d + 1,(o,t,named):: fs,xs,ys=>
  bif named then
   match T t with
   |none=>none
   | some ti=>match wn ti xs o,wn ti ys o with
    |some a,some b=>match vK T d t a b with
     |some true=>Hu T d fs xs ys
     |some false=>some false
     |none=>none
    |_,_=>none
  else Hu T d fs xs ys
end
def aU:List UInt8->List UInt8->Bool
 |_,[]=>false
 |[],_:: _=>true
 |a:: x,b:: y=>a<b||(a== b&&aU x y)
def YP(op:BinOp)(k:IntKind)(a b:Int):Option AV:=
 match op with
 |.add=>some (.int k (k.wrap (a+b)))
 |.sub=>some (.int k (k.wrap (a-b)))
 |.mul=>some (.int k (k.wrap (a*b)))
 |.quo=>if b=0 then none else some (.int k (k.wrap (a.tdiv b)))
 |.rem=>if b=0 then none else some (.int k (a.tmod b))
 |.and=>some (.int k (k.wrap (BitVec.ofInt k.bits a &&& BitVec.ofInt k.bits b).toNat))
 |.or=>some (.int k (k.wrap (BitVec.ofInt k.bits a ||| BitVec.ofInt k.bits b).toNat))
 |.xor=>some (.int k (k.wrap (BitVec.ofInt k.bits a ^^^ BitVec.ofInt k.bits b).toNat))
 |.andNot=>some (.int k (k.wrap (BitVec.ofInt k.bits a &&& ~~~ BitVec.ofInt k.bits b).toNat))
 |.eql=>some (.bool (a== b))
 |.neq=>some (.bool (a != b))
 |.lss=>some (.bool (a<b))
 |.leq=>some (.bool (a<=b))
 |.gtr=>some (.bool (a>b))
 |.geq=>some (.bool (a >= b))
 |_=>none
def Zy(op:BinOp)(a b:List UInt8):Option AV:=
 match op with
 |.add=>if a.length+b.length<=4611686018427387904 then some (.str (a++b))else none
 |.eql=>some (.bool (a== b))
 |.neq=>some (.bool !(a== b))
 |.lss=>some (.bool (aU a b))
 |.leq=>some (.bool (aU a b||a== b))
 |.gtr=>some (.bool !(aU a b||a== b))
 |.geq=>some (.bool !(aU a b))
 |_=>none
def shA(op:BinOp)(k:IntKind)(a b:Int):Option AV:=
 if b<0 then none else
 match op with
 |.shl=>some (.int k (k.wrap (a*2 ^ (min b.toNat k.bits))))
 |.shr=>some (.int k (a.fdiv (2 ^ (min b.toNat k.bits))))
 |_=>none
def CZ:BinOp->Bool
 |.shl|.shr=>true
 |_=>false
def bN(T:TT)(op:BinOp)(t:TypeId)(x y:AV):Option AV:=
 match x,y with
 |.int k a,.int k' b=>bif CZ op then shA op k a b else if k=k' then YP op k a b else none
 |.str a,.str b=>Zy op a b
 |x,y=>match op with
  |.eql=>(vK T 20 t x y).map .bool
  |.neq=>(vK T 20 t x y).map fun b=>.bool !b
  |_=>none
def Sa(op:UnOp)(x:AV):Option AV:=
 match op,x with
 |.not,.bool b=>some (.bool !b)
 |.neg,.int k n=>some (.int k (k.wrap (0-n)))
 |_,_=>none
def AW(T:TT)(src dst:TypeId)(x:AV):Option AV:=
 match T src,T dst with
 |some _,some d=>match d.kind,x with
  |.int k,.int _ n=>some (.int k (k.wrap n))
  |.str,.str s=>some (.str s)
  |_,_=>none
 |_,_=>none
def ar(T:TT)(t:TypeId)(x:AV)(f:Nat):Option AV:=
 match T t with
 |none=>none
 | some ti=>match ti.offs[f]? with
  |none=>none
  | some (o,ft,_)=>match T ft with
   |none=>none
   |some fi=>if fi.size=0 then none else
    match x with
    |.ip cs=>some (.ip (cs.drop o))
    |.hp l off=>some (.hp l (off+o))
    |_=>none
def ax(T:TT)(t:TypeId)(x i:AV):Option AV:=
 match T t,i with
 | some ti,.int _ n=>match ti.kind,x with
  | .slice e,.sl es=>match T e with
   |some ei=>if n<0 then none else match es[n.toNat]? with
    |some a=>if cW a=some ei.size then some (.ip (ab a))else none
    |none=>none
   |none=>none
  |.slice e,.hs l off len _ _=>match T e with
   |some ei=>if 0<=n/\n<len then some (.hp l (off+n.toNat*ei.size))else none
   |none=>none
  |.array m e,.ip cs=>match T e with
   |some ei=>if 0<=n/\n<m then some (.ip (cs.drop (n.toNat*ei.size)))else none
   |none=>none
  |.array m e,.hp l off=>match T e with
   |some ei=>if 0<=n/\n<m then some (.hp l (off+n.toNat*ei.size))else none
   |none=>none
  |_,_=>none
 |_,_=>none
def ay(T:TT)(t:TypeId)(x:AV):Option AV:=
 match T t,x with
 |some ti,.ip cs=>bif ti.agg then(if ti.size<=cs.length then some (.agg (cs.take ti.size))else none)else cs.head?
 |_,_=>none
def nC:AV->Option AV
 |.ip cs=>some (.ip cs)
 |.hp l off=>some (.hp l off)
 |.iface t v=>some (.iface t v)
 |.fn (.func f) a c=>some (.fn (.func f) a c)
 |_=>none
def mi(T:TT)(t:TypeId)(x i:AV):Option AV:=
 match T t,i with
 | some ti,.int _ n=>match ti.kind,x with
  |.str,.str s=>if n<0 then none else s[n.toNat]?.map fun b=>.int .u8 b.toNat
  |.array m e,.agg cs=>match T e with
   |some ei=>if 0<=n/\n<m then wn ei cs (n.toNat*ei.size)else none
   |none=>none
  |_,_=>none
 |_,_=>none
def xS(T:TT)(t:TypeId)(x:AV)(f:Nat):Option AV:=
 match T t,x with
 | some ti,.agg cs=>match ti.kind,ti.offs[f]? with
  |.struct,some (o,ft,_)=>match T ft with
   |some fi=>wn fi cs o
   |none=>none
  |_,_=>none
 |_,_=>none
def dO(x:Option AV)(dflt most:Nat):Option Nat:=
 match x with
 |none=>some dflt
 |some (.int _ n)=>if 0<=n/\n<=most then some n.toNat else none
 |some _=>none
def aO:AV->Bool
 |.any|.agg _|.tup _|.nilb _|.byt _ _|.it _=>false
 |_=>true
def cn(sz:Nat)(e:AV):Bool:=cW e== some sz&&(ab e).all aO
def dK(sz:Nat)(es:List AV):Bool:=es.all (cn sz)
def HM:AV->Bool
 |.str _=>true
 |_=>false
def eR(T:TT)(t:TypeId)(x:AV)(lo hi mx:Option AV):Option AV:=
 match T t with
 |none=>none
 | some ti=>match ti.kind,x with
  | .str,.str s=>match mx with
   |some _=>none
   | none=>match dO hi s.length s.length with
    |none=>none
    |some h=>match dO lo 0 h with
     |none=>none
     |some l=>some (.str ((s.take h).drop l))
  | .slice e,.sl es=>match T e with
   |none=>none
   | some ei=>match dO hi es.length es.length with
    |none=>none
    | some h=>match dO lo 0 h with
     |none=>none
     | some l=>bif decide (l=0)||dK ei.size es then
      (match mx with
      |none=>some (.sl ((es.take h).drop l))
      |some m=>match hi,dO (some m) 0 es.length with
       |some _,some m'=>if m'=h then some (.sl ((es.take h).drop l))else none
       |_,_=>none)
      else none
  | .slice e,.hn=>match T e with
   |none=>none
   | some _=>match mx with
    |some _=>none
    | none=>match dO hi 0 0 with
     |none=>none
     |some h=>match dO lo 0 h with
      |none=>none
      |some _=>some .hn
  | .slice e,.he=>match T e with
   |none=>none
   | some _=>match mx with
    |some _=>none
    | none=>match dO hi 0 0 with
     |none=>none
     |some h=>match dO lo 0 h with
      |none=>none
      |some _=>some .he
  | .slice e,.hs l0 off len sz ag=>match T e with
   |none=>none
   | some ei=>match mx with
    |some _=>none
    | none=>match dO hi len len with
     |none=>none
     |some h=>match dO lo 0 h with
      |none=>none
      |some l=>if ei.size=sz then(if l<h then some (.hs l0 (off+l*sz) (h-l) sz ag)else some (.sl []))else none
  |.array m e,.ip cs=>match T e,lo,hi,mx with
   |some ei,none,none,none=>if ei.size=1/\cs.length=m/\0<m/\cs.all HM=true then some (.sl cs)else none
   |_,_,_,_=>none
  |_,_=>none
def Iw(T:TT)(t:TypeId)(x:AV)(lo hi mx:Option AV):Option AV:=none
def Ks(T:TT)(t:TypeId)(x:AV)(lo:Option AV):Option AV:=match x with
 |.sl es=>eR T t (.sl es) lo none none
 |_=>none
def setCells(cs:List AV)(off:Nat)(xs:List AV):List AV:=cs.take off++xs++cs.drop (off+xs.length)
def vP(place:Nat->Option (Nat×Nat))(cs:List AV):List (Nat×AV)->Option (List AV)
 |[]=>some cs
 |(i,v):: rest=>match place i with
  |none=>none
  |some (off,size)=>if cW v=some size/\off+size<=cs.length then vP place (setCells cs off (ab v)) rest else none
def mI(T:TT):List (Nat×Nat×Bool)->Option (List (Nat×Nat))
 |[]=>some []
 |(o,t,_):: fs=>match T t,mI T fs with
  |some ti,some r=>some ((o,ti.size):: r)
  |_,_=>none
def dG(told:Bool)(ti:TI):List AV:=bif told then ti.zero.map (fun|.sl []=>.hn|x=>x)else ti.zero
def bW(T:TT)(told:Bool)(t:TypeId)(parts:List (Nat×AV)):Option AV:=
 match T t with
 |none=>none
 | some ti=>match ti.kind with
  |.struct=>match mI T ti.offs with
   |none=>none
   |some pl=>(vP (fun i=>pl[i]?) (dG told ti) parts).map .agg
  |.array _ e=>match T e with
   |none=>none
   |some ei=>(vP (fun i=>some (i*ei.size,ei.size)) (dG told ti) parts).map .agg
  |_=>none
def jm(ti:TI):AV:=bif ti.agg then .agg ti.zero else aD ti.zero 0
def lV(sz:Nat)(es:List AV):List (Nat×AV)->Option (List AV)
 |[]=>some es
 |(i,v):: rest=>if cW v=some sz/\i<es.length then lV sz (es.set i v) rest else none
def aI(T:TT)(t:TypeId)(len:Nat)(parts:List (Nat×AV)):Option AV:=
 match T t with
 |none=>none
 | some ti=>match ti.kind with
  |.slice e=>match T e with
   |none=>none
   |some ei=>if len*ei.size<=16777216/\cW (jm ei)=some ei.size then(lV ei.size (List.replicate len (jm ei)) parts).map .sl else none
  |_=>none
def sC(T:TT)(t:TypeId)(len cap:AV):Option AV:=none
def jX:AV->Option (List AV)
 |.sl es=>some es
 |.hn=>some []
 |.he=>some []
 |.hs _ _ 0 _ _=>some []
 |.str s=>some (s.map fun b=>.int .u8 b.toNat)
 |_=>none
def nd:AV->Nat->Bool
 |.str _,n=>Nat.beq n 1
 |_,_=>true
def dL(T:TT)(t:TypeId)(x y:AV):Option AV:=
 match T t with
 |none=>none
 | some ti=>match ti.kind with
  | .slice e=>match T e with
   |none=>none
   |some ei=>match x,jX y with
    |.sl as,some bs=>bif dK ei.size as&&dK ei.size bs&&decide ((as.length+bs.length)*ei.bytes<=140737488355328)&&decide (0<ei.bytes)&&nd y ei.size then some (.sl (as++bs))else none
    |_,_=>none
  |_=>none
def ff(T:TT)(t:TypeId)(x:AV):Option AV:=
 match T t with
 |none=>none
 |some ti=>match ti.kind,x with
  |.slice _,.sl es=>some (.int .i64 es.length)
  |.slice _,.hs _ _ n _ _=>some (.int .i64 n)
  |.slice _,.hn=>some (.int .i64 0)
  |.slice _,.he=>some (.int .i64 0)
  |.str,.str s=>some (.int .i64 s.length)
  |.array n _,_=>some (.int .i64 n)
  |_,_=>none
def NM(big:Bool):AV->AV->Option AV
 |.int k x,.int _ y=>some (.int k (bif big then(if y>x then y else x)else(if y<x then y else x)))
 |_,_=>none
def oz(big:Bool):List AV->Option AV
 |[]=>none
 |[x]=>some x
 |x:: y:: r=>match NM big x y with
  |some z=>oz big (z:: r)
  |none=>none
 termination_by l=>l.length
def jK(x:AV)(i:Nat):Option AV:=match x with
 |.tup vs=>vs[i]?
 |_=>none
def oE(c a b:AV):Option AV:=match c with
 |.bool true=>some a
 |.bool false=>some b
 |_=>none
def oA(T:TT)(t:TypeId)(x:AV):Option AV:=match T t with
 |none=>none
 |some ti=>match ti.kind with
  |.iface=>none
  |_=>some (.iface t x)
def GA:AV->Option Nat
 |.nilb t=>some t
 |.byt t _=>some t
 |_=>none
def yG(a:AV):Bool:=(GA a).isSome
def newH(cs:List AV):M AV:=fun h=>bif cs.isEmpty||cs.any yG then .fail else .ok (.hp h.length 0) (h++[cs])
def QI(t:Nat)(cs:List AV):M AV:=fun _=>.fail
def bM(T:TT)(t:TypeId)(x:AV):M AV:=fun h=>
 match x with
 | .hp l off=>match T t,h[l]? with
  | some ti,some cs=>bif ti.agg then(if off+ti.size<=cs.length then .ok (.agg ((cs.drop off).take ti.size)) h else .fail)
   else match cs[off]? with
    |some v=>.ok v h
    |none=>.fail
  |_,_=>.fail
 |x=>match ay T t x with
  |some v=>.ok v h
  |none=>.fail
def cG(T:TT)(t:TypeId)(x v:AV):M AV:=fun h=>
 match x,T t with
 |.hp l off,some ti=>match h[l]? with
  |some cs=>bif cn ti.size v&&decide (off+ti.size<=cs.length)&&decide (0<ti.size)then .ok (.tup []) (h.set l (setCells cs off (ab v)))else .fail
  |none=>.fail
 |_,_=>.fail
def appH(T:TT)(t:TypeId)(z:Bool)(x y:AV):M AV:=fun h=>
 match T t with
 |none=>.fail
 | some ti=>match ti.kind with
  | .slice e=>match T e with
   |none=>.fail
   | some ei=>match jX y with
    |none=>.fail
    | some bs=>bif dK ei.size bs&&decide (0<ei.bytes)&&decide (0<ei.size)&&nd y ei.size then
      match x with
      |.hn=>bif bs.isEmpty then .ok .hn h else
       bif decide (bs.length*ei.bytes<=140737488355328)then .ok (.hs h.length 0 bs.length ei.size ei.agg) (h++[bs.flatMap ab])else .fail
      |.he=>bif bs.isEmpty then .ok .he h else
       bif decide (bs.length*ei.bytes<=140737488355328)then .ok (.hs h.length 0 bs.length ei.size ei.agg) (h++[bs.flatMap ab])else .fail
      |.sl []=>bif z then(bif bs.isEmpty then .ok (.sl []) h else
       bif decide (bs.length*ei.bytes<=140737488355328)then .ok (.hs h.length 0 bs.length ei.size ei.agg) (h++[bs.flatMap ab])else .fail)else .fail
      | .hs l 0 len sz ag=>match h[l]? with
       |none=>.fail
       | some cs=>bif sz== ei.size&&ag== ei.agg&&cs.all aO&&decide (len*sz<=cs.length)&&decide (0<cs.length)&&decide ((len+bs.length)*ei.bytes<=140737488355328)then
         (bif bs.isEmpty then .ok (.hs l 0 len sz ag) h
         else .ok (.hs h.length 0 (len+bs.length) sz ag) ((h.set l [])++[cs.take (len*sz)++bs.flatMap ab]))
        else .fail
      |_=>.fail
     else .fail
  |_=>.fail
def O9(T:TT)(t:TypeId)(x y:AV):M AV:=fun _=>.fail
def Cz(T:TT)(t:TypeId)(len:Nat)(parts:List (Nat×AV)):M AV:=fun _=>.fail
def Jy(T:TT)(t:TypeId)(len cap:AV):M AV:=fun _=>.fail
def oS(ag:Bool)(sz:Nat):Nat->List AV->List AV
 |0,_=>[]
 |n+1,cs=>(bif ag then .agg (cs.take sz)else aD cs 0):: oS ag sz n (cs.drop sz)
def vd(h:Hp):AV->Option (List AV)
 |.hs _ _ 0 _ _=>some []
 |.hs l off len sz ag=>match h[l]? with
  |some cs=>bif (ag||Nat.beq sz 1)&&decide (off+len*sz<=cs.length)&&((cs.drop off).take (len*sz)).all aO then some (oS ag sz len (cs.drop off))else none
  |none=>none
 |.hn=>some []
 |.he=>some []
 |.sl es=>some es
 |_=>none
def Ej(T:TT)(t:TypeId)(z:Bool)(x y:AV):M AV:=fun h=>match vd h y with
 |some es=>appH T t z x (.sl es) h
 |none=>.fail
def El(T:TT)(t:TypeId)(x y:AV):M AV:=fun h=>match vd h y with
 |some es=>(match dL T t x (.sl es)with
  |some v=>.ok v h
  |none=>.fail)
 |none=>.fail
def CH(T:TT)(t:TypeId)(x:AV):M AV:=fun _=>.fail
def GO(T:TT):Nat->Nat->AV->Bool
 |0,_,_=>false
 | d + 1,t,x=>match T t with
  |none=>false
  | some ti=>match ti.kind,x with
   |.bool,_=>true
   |.int _,_=>true
   |.str,_=>true
   |.ptr,_=>true
   | .struct,.agg cs=>ti.offs.all fun f=>match T f.2.1 with
    |none=>false
    |some fi=>match wn fi cs f.1 with
     |some y=>GO T d f.2.1 y
     |none=>false
   |_,_=>false
def JL:AV->AV->Bool
 |.bool a,.bool b=>a== b
 |.int k a,.int k' b=>decide (k=k')&&a== b
 |.str a,.str b=>a== b
 |_,_=>false
def Dy:List AV->List AV->Bool
 |[],[]=>true
 |x:: xs,y:: ys=>JL x y&&Dy xs ys
 |_,_=>false
def Gg:AV->AV->Bool
 |.agg xs,.agg ys=>Dy xs ys
 |x,y=>JL x y
def gC(T:TT)(kt:Nat)(k:AV):List AV->Nat->Option (Option (Nat×AV×AV))
 |[],_=>some none
 |.tup [k',v]:: es,i=>match vK T 20 kt k k' with
  |some true=>some (some (i,k',v))
  |some false=>gC T kt k es (i+1)
  |none=>none
 |_:: _,_=>none
def jY(T:TT)(t:Nat):Option (Nat×Nat):=match T t with
 |some ti=>(match ti.kind with|.map k e=>some (k,e)|_=>none)
 |none=>none
def jN:M AV:=fun h=>.ok (.mp h.length) (h++[[.tup []]])
def mE(h:Hp):AV->Option (List AV)
 |.mp l=>match h[l]? with
  |some [.tup es]=>some es
  |_=>none
 |.nilm=>some []
 |_=>none
def pF(T:TT)(t:TypeId)(es:List AV)(k:AV)(ok:Bool):Option AV:=match jY T t with
 |none=>none
 | some (kt,et)=>bif GO T 20 kt k then(match T et with
  |none=>none
  |some ei=>match gC T kt k es 0 with
   |some (some (_,_,v))=>some (bif ok then .tup [v,.bool true]else v)
   |some none=>some (bif ok then .tup [jm ei,.bool false]else jm ei)
   |none=>none)else none
def iO(T:TT)(t:TypeId)(x k:AV)(ok:Bool):M AV:=fun h=>match mE h x with
 |none=>.fail
 |some es=>match pF T t es k ok with
  |some v=>.ok v h
  |none=>.fail
def uY(T:TT)(kt:Nat)(es:List AV)(k v:AV):Option (List AV):=match gC T kt k es 0 with
 |some (some (i,k',_))=>bif Gg k' k then some (es.set i (.tup [k,v]))else none
 |some none=>some (es++[.tup [k,v]])
 |none=>none
def tZ(T:TT)(t:TypeId)(x k v:AV):M AV:=fun h=>match jY T t with
 |none=>.fail
 | some (kt,_)=>bif GO T 20 kt k then(match x with
  | .mp l=>(match h[l]? with
   |some [.tup es]=>(match uY T kt es k v with
    |some es'=>.ok (.tup []) (h.set l [.tup es'])
    |none=>.fail)
   |_=>.fail)
  |_=>.fail)else .fail
def FV(ps:List Nat):AV:=.sl (ps.map fun(i:Nat)=>qi i)
def JC:AV->Nat
 |.int _ n=>n.toNat
 |_=>0
def u4(T:TT)(t:TypeId)(x:AV):M AV:=fun h=>match jY T t with
 |none=>.fail
 | some _=>match x with
  |.mp l=>(match h[l]? with
   |some [.tup es]=>.ok (.it h.length) (h++[[.tup [],.mp l,.int .i64 (es.length:Nat),FV (List.range es.length),.any]])
   |_=>.fail)
  |.nilm=>.ok (.it h.length) (h++[[.tup [],.nilm]])
  |_=>.fail
def oU(x:AV):M AV:=fun h=>match x with
 | .it l=>(match h[l]? with
  | some [.tup [],.mp m,.int .i64 n,_,.int .i64 c]=>(match h[m]? with
   |some [.tup es]=>if(es.length:Int)=n then(match es[c.toNat]? with
    |some (.tup [k,v])=>.ok (.tup [k,v]) h
    |_=>.fail)else .fail
   |_=>.fail)
  |_=>.fail)
 |_=>.fail
open Classical in
noncomputable def CN{ρ:Type}(ps:List Nat)(k:Nat->M ρ):M ρ:=fun h=>match ps with
 |[]=>.fail
 |p:: ps=>if ∀q∈ps,k q h=k p h then k p h else .fail
noncomputable def sF{ρ:Type}(x:AV)(kf kt:M ρ):M ρ:=fun h=>match x with
 | .it l=>(match h[l]? with
  |some [.tup [],.nilm]=>kf (h.set l [])
  | some [.tup [],.mp m,.int .i64 n,.sl qs,_]=>(match h[m]? with
   |some [.tup es]=>if(es.length:Int)=n then(match qs.map JC with
    |[]=>kf (h.set l [])
    |p:: ps=>CN (p:: ps) (fun q h=>kt (h.set l [.tup [],.mp m,qi n,FV ((p:: ps).filter fun r=>!(Nat.beq r q)),qi (q:Nat)])) h)else .fail
   |_=>.fail)
  |_=>.fail)
 |_=>.fail
def yR(ops:Array Oper)(draw:Bool):Option (Nat×Nat×Nat):=bif draw then none else match ops.toList with
 |[a,b]=>(match a.op,a.dst,a.guard,b.op,b.dst,b.guard with
  |.next (.tmp p) false,some d,none,.extract (.tmp d') 0,some q,none=>bif Nat.beq d d'&&!(Nat.beq d q)then some (p,d,q)else none
  |_,_,_,_,_,_=>none)
 |_=>none
mutual
def cl(g:Nat->Nat->Nat->Nat->Bool->AV):AV->AV
 |.agg cs=>.agg (eB g cs)
 |.tup cs=>.tup (eB g cs)
 |.sl es=>.sl (eB g es)
 |.ip cs=>.ip (eB g cs)
 |.hp _ _=>.any
 |.hs l off len sz ag=>g l off len sz ag
 |.hn=>.sl []
 |.he=>.sl []
 |.fn f a c=>.fn f (eB g a) (eB g c)
 |.iface t v=>.iface t (cl g v)
 |.any=>.any
 |.bool b=>.bool b
 |.int k n=>.int k n
 |.str s=>.str s
 |.nilp=>.nilp
 |.nilf=>.nilf
 |.nili=>.nili
 |.mp _=>.any
 |.nilm=>.nilm
 |.nilb _=>.nilp
 |.byt _ n=>.int .u8 n
 |.it _=>.any
def eB(g:Nat->Nat->Nat->Nat->Bool->AV):List AV->List AV
 |[]=>[]
 |c:: cs=>cl g c:: eB g cs
end
def ai:Nat->Nat->Nat->Nat->Bool->AV:=fun _ _ _ _ _=>.any
def jt:Nat->Hp->AV->AV
 |0,_,a=>cl ai a
 | d + 1,h,a=>cl (fun l off len sz ag=>match h[l]? with
   | some cs=>bif decide (off+len*sz<=cs.length)&&decide (0<sz)&&(ag||(Nat.beq sz 1&&cs.all aO))then
     .sl ((List.range len).map fun i=>jt d h (bif ag then .agg ((cs.drop (off+i*sz)).take sz)else aD cs (off+i*sz)))else .any
   |none=>.any) a
inductive SV where
 |val (a:AV)
 |loc (B off:Nat)
structure Ent where
 v:SV
 g:Option Nat
def Ent.none:Ent:=⟨.val .any,.none⟩
def cF:List (Nat×Ent)->Nat->Ent
 |[],_=>Ent.none
 |(k,e):: r,t=>bif Nat.beq k t then e else cF r t
structure Env where
 sl:List (Nat×Ent)
 al:List (Nat×Option Nat)
 nx:Nat
 lb:List (Nat×Nat)
def Env.get(e:Env)(t:Nat):Ent:=cF e.sl t
def Env.set(e:Env)(t:Nat)(x:Ent):Env:={ e with sl:=(t,x):: e.sl }
def Ent.av(x:Ent):AV:=match x.v with
 |.val a=>a
 |.loc _ _=>.any
def Env.av(e:Env)(t:Nat):AV:=(e.get t).av
def opnd(e:Env):Operand->AV
 |.tmp t=>e.av t
 |.const v=>cA v
 |.func f=>.fn (.func f) [] []
 |.global g=>(match Jn g with|some cs=>.ip cs|none=>.any)
inductive Kind where
 |F|L|H|S|B
 deriving DecidableEq
structure JA where
 vals:List (Nat×Option Nat)
 locs:List (Nat×Nat×Nat):=[]
 lbs:List (Nat×Nat):=[]
 fz:Bool:=false
structure Ann where
 iso:Bool:=true
 kinds:List (Nat×Kind):=[]
 hl:List Nat:=[]
 ha:List Nat:=[]
 hb:List Nat:=[]
 joins:List (Nat×JA):=[]
 loops:List (Nat×JA):=[]
 ords:List (Nat×List Nat):=[]
 nils:List (Nat×List Nat):=[]
 fz:List Nat:=[]
 no:List Nat:=[]
 nl:List Nat:=[]
 lw:List Nat:=[]
 rz:Bool:=false
 so:List Nat:=[]
 sl1:List Nat:=[]
 sl0:List Nat:=[]
 lm:List (Nat×Nat×Nat):=[]
 cm:List (Nat×Nat×Nat):=[]
 deriving Inhabited
def dw(l:List (Nat×Kind))(t:Nat)(dflt:Kind):Kind:=match l with
 |[]=>dflt
 |(k,x):: r=>bif Nat.beq k t then x else dw r t dflt
def xW(l:List (Nat×JA))(t:Nat):Option JA:=match l with
 |[]=>none
 |(k,x):: r=>bif Nat.beq k t then some x else xW r t
def MU(l:List (Nat×List Nat))(t:Nat):Option (List Nat):=match l with
 |[]=>none
 |(k,x):: r=>bif Nat.beq k t then some x else MU r t
def dM(l:List Nat)(t:Nat):Bool:=match l with
 |[]=>false
 |k:: r=>bif Nat.beq k t then true else dM r t
def kR(l:List (Nat×Nat×Nat))(d:Option Nat):Option (Nat×Nat):=match d,l with
 |some t,(k,x):: r=>bif Nat.beq k t then some x else kR r (some t)
 |_,_=>none
def bX(l:List Nat):Option Nat->Bool
 |some t=>dM l t
 |none=>false
structure Cx where
 T:TT
 call:FuncId->List AV->M AV
 own:FuncId->Option Nat
 iso:FuncId->Bool
 nw:FuncId->Bool:=fun _=>false
 nt:Nat
 ann:Ann
def aQ(al:List (Nat×Option Nat))(g:Nat):Option (Option Nat):=match al with
 |[]=>none
 |(k,x):: r=>bif Nat.beq k g then some x else aQ r g
def AZ(al:List (Nat×Option Nat))(g:Nat):List (Nat×Option Nat):=match al with
 |[]=>[]
 |(k,x):: r=>bif Nat.beq k g then AZ r g else(k,x):: AZ r g
def aN(d:Nat):Nat:=1000*(d+1)
def pE(e:Env)(B:Nat):Nat->List AV
 |0=>[]
 |n+1=>pE e B n++[e.av (B+n)]
def bb(l:List (Nat×Nat))(B:Nat):Option Nat:=match l with
 |[]=>none
 |(k,x):: r=>bif Nat.beq k B then some x else bb r B
def nh(e:Env)(B off n:Nat):Bool:=match bb e.lb B with
 |some m=>decide (off+n<=m)&&decide (1000<=B)&&decide (B % 1000=0)&&decide (m<=1000)
 |none=>false
def oR(n:Nat)(x:AV):Option (List AV):=bif cn n x then some (ab x)else none
def ba(call:FuncId->List AV->M AV)(f:AV)(args:List AV):M AV:=match f with
 |.fn (.func g) a c=>call g (a++args++c)
 |_=>gk
def eK(T:TT)(t:TypeId):Option Nat:=match T t with
 |some ti=>match ti.kind with
  |.slice e=>(T e).map (·.size)
  |_=>none
 |none=>none
def bD:Operand->Bool
 |.const (.slice none 0 0)=>true
 |_=>false
def yX(e:Env)(x:Operand):AV:=bif bD x then .hn else opnd e x
def rI(told:Bool)(e:Env)(x:Operand):AV:=bif told then yX e x else opnd e x
structure Upd where
 ent:Ent
 ls:List (Nat×Ent):=[]
 drop:Option Nat:=none
 add:List (Nat×Option Nat):=[]
 lb:Option (Nat×Nat):=none
 unlb:Option Nat:=none
def Upd.ofV(a:AV):Upd:={ ent:=⟨.val a,none⟩ }
def Upd.own(a:AV)(gid:Nat)(sz:Option Nat):Upd:={ ent:=⟨.val a,some gid⟩,add:=[(gid,sz)] }
def gK(al:List (Nat×Option Nat)):Option Nat->List (Nat×Option Nat)
 |some g=>AZ al g
 |none=>al
def rC(l:List (Nat×Nat))(B:Nat):List (Nat×Nat):=match l with
 |[]=>[]
 |(k,x):: r=>bif Nat.beq k B then rC r B else(k,x):: rC r B
def fO(l:List (Nat×Nat)):Option Nat->List (Nat×Nat)
 |some B=>rC l B
 |none=>l
def pQ(l:List α):Option α->List α
 |some x=>x:: l
 |none=>l
def uf(d:Option Tmp)(x:Ent)(r:List (Nat×Ent)):List (Nat×Ent):=match d with
 |some t=>(t,x):: r
 |none=>r
def Env.upd(e:Env)(d:Option Tmp)(u:Upd):Env:=
 { sl:=uf d u.ent (u.ls++e.sl),al:=u.add++gK e.al u.drop,nx:=e.nx,lb:=pQ (fO e.lb u.unlb) u.lb }
inductive Act1 where
 |bad
 |stat (u:Upd)
 |dyn (m:M AV) (sh:AV->Upd)
 |thr (v:AV)
def lX(B:Nat)(cs:List AV)(offs:List Nat)(gid n:Nat):List (Nat×Ent):=
 (List.range n).map fun i=>(B+i,bif dM offs i then⟨.val (.sl []),some (gid+i)⟩else⟨.val (aD cs i),none⟩)
def uI(offs:List Nat)(gid:Nat):List (Nat×Option Nat):=offs.map fun i=>(gid+i,none)
def Vd:AV->Bool
 |.hn=>true
 |_=>false
def jO(cs:List AV)(offs:List Nat)(n:Nat):Bool:=offs.all fun i=>decide (i<n)&&Vd (aD cs i)
def gD(l:List (Nat×List Nat))(t:Nat):List Nat:=match MU l t with
 |some x=>x
 |none=>[]
def aT(l:List (Nat×Ent))(B:Nat):Bool:=l.all fun x=>match x.2.v with
 |.loc C _=>!(Nat.beq C B)
 |.val _=>true
def lx(T:TT)(t:Nat):Bool:=match T t with
 |some ti=>(match ti.kind with|.slice _|.str=>true|_=>false)
 |none=>false
def DO(z:Option Nat)(s:Option Nat):Bool:=match z with
 |none=>true
 |some n=>(match s with|some m=>Nat.beq n m|none=>false)
def bB(n:Nat)(x:AV):M AV:=bJ ((oR n x).map .agg)
def dP(x:AV):M AV:=bJ (bif aO x then some x else none)
def aK(n:Nat)(offs:List Nat)(x:AV):M AV:=bJ (match oR n x with
 |some cs=>bif jO cs offs n then some (.agg cs)else none
 |none=>none)
mutual
def CP:AV->AV->Bool
 |.any,.any=>true
 |.bool a,.bool b=>a== b
 |.int k a,.int k' b=>decide (k=k')&&a== b
 |.str a,.str b=>a== b
 |.nilp,.nilp=>true
 |.nilf,.nilf=>true
 |.nili,.nili=>true
 |.agg a,.agg b=>xO a b
 |.tup a,.tup b=>xO a b
 |.sl a,.sl b=>xO a b
 |.ip a,.ip b=>xO a b
 |.hp l o,.hp l' o'=>Nat.beq l l'&&Nat.beq o o'
 |.hs l o n s g,.hs l' o' n' s' g'=>Nat.beq l l'&&Nat.beq o o'&&Nat.beq n n'&&Nat.beq s s'&&(g== g')
 |.hn,.hn=>true
 |.fn f a c,.fn f' a' c'=>decide (f=f')&&xO a a'&&xO c c'
 |.iface t a,.iface t' b=>Nat.beq t t'&&CP a b
 |.mp l,.mp l'=>Nat.beq l l'
 |.nilm,.nilm=>true
 |.nilb t,.nilb t'=>Nat.beq t t'
 |.byt t n,.byt t' n'=>Nat.beq t t'&&n== n'
 |.it l,.it l'=>Nat.beq l l'
 |.he,.he=>true
 |_,_=>false
def xO:List AV->List AV->Bool
 |[],[]=>true
 |a:: l,b:: r=>CP a b&&xO l r
 |_,_=>false
end
def Is(m r:Nat):Nat->List AV->List AV->Bool
 |_,[],_=>true
 |_,_:: _,[]=>false
 |o,c:: cs,d:: ds=>(bif Nat.beq (o % m) r then CP c d else true)&&Is m r (o+1) cs ds
def rF(m r:Nat):Hp->Hp->Bool
 |[],_=>true
 |_:: _,[]=>false
 |c:: cs,d:: ds=>Is m r 0 c d&&rF m r cs ds
def lG(m r:Nat)(x:M AV):M AV:=fun h=>match x h with
 |.ok v h'=>bif rF m r h h' then .ok v h' else .fail
 |.pan v h'=>.pan v h'
 |.fail=>.fail
def iu(T:TT)(m r:Nat)(t:TypeId)(x:AV):M AV:=fun h=>match x,T t with
 |.hp l off,some ti=>bif Nat.beq (off % m) r&&!ti.agg then bM T t (.hp l off) h else .fail
 |_,_=>.fail
def Jm(v:AV):M AV:=fun h=>.ok (jt 6 h v) (h.map fun _=>[])
def RX:List AV->Option Nat
 |[]=>none
 |.hs l _ _ _ _:: _=>some l
 |_:: cs=>RX cs
def YM(h:Hp)(l:Nat):Nat->Nat->Nat->Nat->Bool->AV:=fun l' off len sz ag=>bif Nat.beq l' l then jt 1 h (.hs l off len sz ag)else .any
def tw(v:AV):M AV:=fun h=>match v with
 |.hs l off len sz ag=>.ok (jt 1 h (.hs l off len sz ag)) (h.set l [])
 |.agg cs=>match RX cs with
  |some l=>.ok (cl (YM h l) (.agg cs)) (h.set l [])
  |none=>.ok (jt 0 h (.agg cs)) h
 |v=>.ok (jt 0 h v) h
def iV(e:Env):Operand->Bool
 |.tmp s=>(match (e.get s).g with
  |some g=>(match aQ e.al g with|some none=>true|_=>false)
  |none=>false)
 |_=>false
def jg(cx:Cx)(e:Env)(gid:Nat)(o:Oper)(c:Call):Act1:=
 match c.callee with
 |.value (.func f)=>bif bX cx.ann.fz o.dst then(bif !(cx.iso f)&&(cx.own f).isNone then .dyn (aG (cx.call f (c.args.toList.map (opnd e))) (bif bX cx.ann.hl o.dst then tw else Jm)) .ofV else .bad)else
  match kR cx.ann.cm o.dst with
  |some (m,r)=>bif !(cx.iso f)&&(cx.own f).isNone then .dyn (lG m r (cx.call f (c.args.toList.map (opnd e)))) .ofV else .bad
  |none=>.dyn (cx.call f (c.args.toList.map (rI (bX cx.ann.hb o.dst) e))) fun v=>match cx.own f with|some sz=>.own v gid (some sz)|none=>.ofV v
 |.value f=>.dyn (ba cx.call (opnd e f) (c.args.toList.map (opnd e))) .ofV
 |.builtin .len=>match c.argTypes.toList,c.args.toList with
  |t:: _,x:: _=>.dyn (bJ (ff cx.T t (opnd e x))) .ofV
  |_,_=>.bad
 |.builtin .clear=>match c.argTypes.toList,c.args.toList with
  |t:: _,x:: _=>.dyn (CH cx.T t (opnd e x)) .ofV
  |_,_=>.bad
 |.builtin .min=>.dyn (bJ (oz false (c.args.toList.map (opnd e)))) .ofV
 |.builtin .max=>.dyn (bJ (oz true (c.args.toList.map (opnd e)))) .ofV
 | .builtin .append=>match c.argTypes.toList,c.args.toList with
  | [t, u],[x,y]=>
   bif !(lx cx.T u)then .bad else
   bif bX cx.ann.ha o.dst then .dyn (bif bX cx.ann.hb o.dst then O9 cx.T t (opnd e x) (opnd e y)else bif bX cx.ann.hl o.dst then Ej cx.T t (iV e x) (opnd e x) (opnd e y)else appH cx.T t (iV e x) (opnd e x) (opnd e y)) .ofV
   else bif bD x then .dyn (bif bX cx.ann.hl o.dst then El cx.T t (.sl []) (opnd e y)else bJ (dL cx.T t (.sl []) (opnd e y))) fun v=>.own v gid (eK cx.T t)
   else match x with
    | .tmp s=>match (e.get s).g with
     |none=>.bad
     | some g=>match aQ e.al g with
      |none=>.bad
      | some z=>bif DO z (eK cx.T t)then
        .dyn (bif bX cx.ann.hl o.dst then El cx.T t (opnd e x) (opnd e y)else bJ (dL cx.T t (opnd e x) (opnd e y))) fun v=>{ Upd.own v gid (eK cx.T t)with drop:=some g }
       else .bad
    |_=>.bad
  |_,_=>.bad
 |_=>.bad
def fR(cx:Cx)(e:Env)(d:Option Tmp)(t:TypeId)(p:Nat):Act1:=
 match (e.get p).v with
 | .loc B off=>match cx.T t with
  |none=>.bad
  | some ti=>bif nh e B off ti.size then
    (bif ti.agg then .stat (.ofV (.agg (pE e (B+off) ti.size)))else bif decide (ti.size=1)then .stat { ent:=e.get (B+off) }else .bad)
   else .bad
 |.val a=>bif bX cx.ann.hl d then .dyn (bM cx.T t a) .ofV else .dyn (bJ (ay cx.T t a)) .ofV
def U7(one:Bool):Act1->Act1
 |.bad=>.bad
 |.stat u=>.dyn (bif one then tw u.ent.av else Jm u.ent.av) .ofV
 |.dyn m sh=>.dyn (aG m fun v=>bif one then tw (sh v).ent.av else Jm (sh v).ent.av) .ofV
 |.thr v=>.thr v
def KW:Kind->Bool
 |.S=>true
 |_=>false
def sS(e:Env)(B off p n:Nat):Bool:=Nat.beq off 0&&Nat.beq B (aN p)&&(match bb e.lb B with
 |some m=>Nat.beq m n
 |none=>false)
def iW(cx:Cx)(e:Env)(gid:Nat)(t:TypeId)(p:Nat)(y:Operand):Act1:=
 match (e.get p).v with
 | .loc B off=>match cx.T t with
  |none=>.bad
  | some ti=>bif nh e B off ti.size then
    (bif KW (dw cx.ann.kinds p .L)then(bif sS e B off p ti.size then
      .dyn (bB ti.size (opnd e y)) fun v=>{ Upd.ofV (.tup [])with ls:=[(p,⟨.val (.ip (ab v)),none⟩)],unlb:=some B }
     else .bad)
    else
    bif ti.agg then
     (match gD cx.ann.nils p with
     |offs=>.dyn (aK ti.size offs (opnd e y)) fun v=>{ Upd.ofV (.tup [])with ls:=lX (B+off) (ab v) offs gid ti.size,add:=uI offs gid })
    else bif decide (ti.size=1)then(match y with
     |.tmp s=>match (e.get s).v with
      |.val a=>.dyn (dP a) fun _=>{ Upd.ofV (.tup [])with ls:=[(B+off,e.get s)] }
      |.loc _ _=>.bad
     |y=>bif bD y then .stat { Upd.ofV (.tup [])with ls:=[(B+off,⟨.val (.sl []),some gid⟩)],add:=[(gid,none)] }
      else .dyn (dP (opnd e y)) fun v=>{ Upd.ofV (.tup [])with ls:=[(B+off,⟨.val v,none⟩)] })else .bad)
   else .bad
 |.val a=>.dyn (cG cx.T t a (opnd e y)) .ofV
def l9(cx:Cx)(e:Env)(t:TypeId)(p f:Nat):Act1:=
 match (e.get p).v with
 | .loc B off=>match cx.T t with
  |none=>.bad
  | some ti=>match ti.offs[f]? with
   |none=>.bad
   |some (o',ft,_)=>match cx.T ft with
    |none=>.bad
    |some fi=>bif decide (fi.size=0)then .bad else .stat { ent:=⟨.loc B (off+o'),none⟩ }
 |.val a=>.dyn (bJ (ar cx.T t a f)) .ofV
def xL:Operand->Option Int
 |.const (.int _ n)=>some n
 |_=>none
def fI(cx:Cx)(e:Env)(t:TypeId)(p:Nat)(i:Operand):Act1:=
 match (e.get p).v with
 | .loc B off=>match cx.T t,xL i with
  | some ti,some n=>match ti.kind with
   |.array m el=>match cx.T el with
    |none=>.bad
    |some ei=>bif decide (0<=n/\n<m)then .stat { ent:=⟨.loc B (off+n.toNat*ei.size),none⟩ }else .bad
   |_=>.bad
  |_,_=>.bad
 |.val a=>.dyn (bJ (ax cx.T t a (opnd e i))) .ofV
def gq(cx:Cx)(e:Env)(gid s:Nat)(t:TypeId):Act1:=
 match cx.T t with
 |none=>.bad
 | some ti=>match dw cx.ann.kinds s .L with
  |.F=>.stat (.ofV (.ip ti.zero))
  |.H=>.dyn (newH (dG (dM cx.ann.hb s) ti)) .ofV
  |.B=>.dyn (QI t (dG true ti)) .ofV
  |_=>match gD cx.ann.nils s with
   | offs=>bif decide (ti.size<1000)&&aT e.sl (aN s)&&jO (dG true ti) offs ti.size then
     .stat { ent:=⟨.loc (aN s) 0,none⟩,ls:=lX (aN s) (dG (dM cx.ann.hb s) ti) offs gid ti.size,add:=uI offs gid,lb:=some (aN s,ti.size) }else .bad
def qB(cx:Cx)(e:Env)(s:Nat)(t:TypeId)(x:Operand):Act1:=
 match dw cx.ann.kinds s .F with
 |.F=>.stat (.ofV (.ip (ab (opnd e x))))
 |.H=>.dyn (newH (ab (opnd e x))) .ofV
 |.B=>.bad
 | _=>match cx.T t with
  |none=>.bad
  | some ti=>bif decide (ti.size<1000)&&aT e.sl (aN s)then
    .dyn (bB ti.size (opnd e x)) fun v=>{ ent:=⟨.loc (aN s) 0,none⟩,ls:=lX (aN s) (ab v) [] 0 ti.size,lb:=some (aN s,ti.size) }
   else .bad
def mS(told:Bool)(e:Env)(gid:Nat)(x:Operand):Act1:=match x with
 |.tmp t=>.stat { ent:=e.get t }
 |x=>bif bD x then(bif told then .stat (.ofV .hn)else .stat (.own (.sl []) gid none))else .stat (.ofV (opnd e x))
def mO(x:Ent):Bool:=match x.v with
 |.loc _ _=>true
 |.val _=>false
def QS:AV->M AV
 |.iface t v=>lz (.iface t v)
 |_=>gk
def isLit:Operand->Bool
 |.const _=>true
 |_=>false
def yA(T:TT)(op:BinOp)(t:TypeId)(x y:Operand):Bool:=
 (match op with|.eql|.neq=>true|_=>false)&&(match T t with|some ti=>(match ti.kind with|.iface=>true|_=>false)|none=>false)&&!(isLit x)&&!(isLit y)
def qC(cx:Cx)(e:Env)(d:Option Tmp)(t:TypeId)(m k x:Operand):Act1:=match d with
 |none=>.dyn (tZ cx.T t (opnd e m) (opnd e k) (opnd e x)) .ofV
 |some _=>.bad
def Ho(T:TT)(t:TypeId)(z:Nat):Bool:=match eK T t with
 |some m=>Nat.beq z m
 |none=>false
def tV(cx:Cx)(e:Env)(gid:Nat)(t:TypeId)(x:Operand)(lo hi mx:Option Operand):Act1:=match x with
 | .tmp s=>(match (e.get s).g with
  |none=>.bad
  | some g=>(match aQ e.al g with
   | some (some z)=>bif Ho cx.T t z&&hi.isNone&&mx.isNone then
     .dyn (bJ (Ks cx.T t (opnd e x) (lo.map (opnd e)))) fun v=>{ Upd.own v gid (some z)with drop:=some g }
    else .bad
   |_=>.bad))
 |_=>.bad
def zt(cx:Cx)(p:Nat):Bool:=dM cx.ann.sl1 p||dM cx.ann.sl0 p
def ud(T:TT)(last:Bool)(t:TypeId)(a v:AV):M AV:=fun h=>match a with
 |.hp l off=>bif Nat.beq (l+1) h.length== last then cG T t (.hp l off) v h else .fail
 |_=>.fail
def BM(cx:Cx)(e:Env)(t:TypeId)(p:Nat)(y:Operand):Act1:=match (e.get p).v with
 |.loc _ _=>.bad
 |.val a=>.dyn (ud cx.T (dM cx.ann.sl1 p) t a (opnd e y)) .ofV
def iK(cx:Cx)(e:Env)(gid:Nat)(o:Oper):Act1:=
 match o.op with
 |.move x=>mS (bX cx.ann.hb o.dst) e gid x
 |.assign x=>mS (bX cx.ann.hb o.dst) e gid x
 |.pick c a b=>.dyn (bJ (oE (opnd e c) (opnd e a) (opnd e b))) .ofV
 |.box t x=>match o.dst with
  |none=>.bad
  |some s=>qB cx e s t x
 |.alloc t=>match o.dst with
  |none=>.bad
  |some s=>gq cx e gid s t
 | .load t x=>match x with
  | .tmp p=>match kR cx.ann.lm o.dst with
   |some (m,r)=>(match (e.get p).v with
    |.loc _ _=>.bad
    |.val a=>.dyn (iu cx.T m r t a) .ofV)
   |none=>bif bX cx.ann.nl o.dst&&mO (e.get p)then .bad else bif bX cx.ann.fz o.dst then U7 (bX cx.ann.hb o.dst) (fR cx e o.dst t p)else fR cx e o.dst t p
  |.global g=>.dyn (bJ (ay cx.T t (opnd e (.global g)))) .ofV
  |_=>.bad
 |.store t x y=>match x,o.dst with
  |.tmp p,none=>bif zt cx p then BM cx e t p y else bif dM cx.ann.lw p&&!(mO (e.get p))then .bad else iW cx e gid t p y
  |_,_=>.bad
 |.build t parts=>.dyn (bJ (bW cx.T (bX cx.ann.hb o.dst) t (parts.toList.map fun p=>(p.1,opnd e p.2)))) .ofV
 |.buildSlice t n parts=>bif bX cx.ann.ha o.dst then .dyn (Cz cx.T t n (parts.toList.map fun p=>(p.1,opnd e p.2))) .ofV else .dyn (bJ (aI cx.T t n (parts.toList.map fun p=>(p.1,opnd e p.2)))) fun v=>bif bX cx.ann.no o.dst then .ofV v else .own v gid none
 | .nilCheck x=>match x with
  |.tmp p=>match (e.get p).v with
   |.loc _ _=>.stat { ent:=e.get p }
   |.val a=>.dyn (bJ (nC a)) .ofV
  |_=>.bad
 |.binOp op t x y _=>bif yA cx.T op t x y then .bad else .dyn (bJ (bN cx.T op t (yX e x) (yX e y))) .ofV
 |.unOp op _ x=>.dyn (bJ (Sa op (opnd e x))) .ofV
 |.convert s t x=>.dyn (bJ (AW cx.T s t (opnd e x))) .ofV
 |.makeInterface t x=>.dyn (bJ (oA cx.T t (opnd e x))) .ofV
 |.makeFunc f a c=>.stat (.ofV (.fn f (a.toList.map (opnd e)) (c.toList.map (opnd e))))
 |.makeSlice t n c=>bif bX cx.ann.ha o.dst then .dyn (Jy cx.T t (opnd e n) (opnd e c)) .ofV else .dyn (bJ (sC cx.T t (opnd e n) (opnd e c))) fun v=>.own v gid (eK cx.T t)
 |.slice t x lo hi mx=>bif bX cx.ann.so o.dst then tV cx e gid t x lo hi mx else
  .dyn (bJ (bif bX cx.ann.hb o.dst then Iw cx.T t (opnd e x) (lo.map (opnd e)) (hi.map (opnd e)) (mx.map (opnd e))else eR cx.T t (opnd e x) (lo.map (opnd e)) (hi.map (opnd e)) (mx.map (opnd e)))) fun v=>bif mx.isSome then .own v gid none else .ofV v
 |.fieldAddr t x f=>match x with
  |.tmp p=>l9 cx e t p f
  |_=>.bad
 |.indexAddr t x i=>match x with
  |.tmp p=>fI cx e t p i
  |.global g=>.dyn (bJ (ax cx.T t (opnd e (.global g)) (opnd e i))) .ofV
  |_=>.bad
 |.field t x f=>.dyn (bJ (xS cx.T t (opnd e x) f)) .ofV
 |.index t x i=>.dyn (bJ (mi cx.T t (opnd e x) (opnd e i))) .ofV
 |.extract x i=>.dyn (bJ (jK (opnd e x) i)) .ofV
 |.panic x=>.dyn (QS (opnd e x)) .ofV
 |.call c=>jg cx e gid o c
 |.makeMap _ r=>bif r.isSome then .bad else .dyn jN .ofV
 |.lookup t x i ok=>.dyn (iO cx.T t (opnd e x) (opnd e i) ok) .ofV
 |.mapUpdate t m k x=>qC cx e o.dst t m k x
 |.insert t m k x=>qC cx e o.dst t m k x
 |.range t x=>.dyn (u4 cx.T t (opnd e x)) .ofV
 |.entry x=>.dyn (oU (opnd e x)) .ofV
 |_=>.bad
def aP(e:Env)(d:Option Tmp):Act1->M Env
 |.bad=>gk
 |.stat u=>ao (e.upd d u)
 |.dyn m sh=>aG m fun v=>ao (e.upd d (sh v))
 |.thr v=>lz v
def bT(cx:Cx)(e:Env)(gid:Nat)(o:Oper):M Env:=aP e o.dst (iK cx e gid o)
def guardOf(ops:Array Oper)(i:Nat):Option (Nat×Bool):=match ops[i]? with
 |some o=>o.guard
 |none=>none
def JM:Option (Nat×Bool)->Option (Nat×Bool)->Bool
 |none,none=>true
 |some (a,x),some (b,y)=>Nat.beq a b&&(x== y)
 |_,_=>false
def fF(ops:Array Oper):List Nat->List (Option (Nat×Bool)×List Nat)
 |[]=>[]
 |i:: is=>match fF ops is with
  |(g,js):: r=>bif JM (guardOf ops i) g then(g,i:: js):: r else(guardOf ops i,[i]):: (g,js):: r
  |[]=>[(guardOf ops i,[i])]
def jh(o:Oper):List Nat:=o.op.operands.toList.filterMap fun|.tmp t=>some t|_=>none
def eQ(ops:Array Oper)(i:Nat):List Nat:=match ops[i]? with
 |none=>[]
 |some o=>(match o.guard with
  |some (j,_)=>(match (ops[j]?).bind (·.dst)with|some t=>[t]|none=>[])
  |none=>[])++jh o
def dT(ops:Array Oper)(i:Nat):Option Nat:=(ops[i]?).bind (·.dst)
def eu(ops:Array Oper)(is:List Nat):List Nat:=is.filterMap (dT ops)
def IK(ops:Array Oper)(gs:List (Option (Nat×Bool)×List Nat))(t:Nat):Bool:=
 gs.any fun g=>g.2.any fun i=>dM (eQ ops i) t
def fg(ops:Array Oper)(is:List Nat)(gs:List (Option (Nat×Bool)×List Nat)):List Nat:=(eu ops is).filter (IK ops gs)
def forget(e:Env):List Nat->Env
 |[]=>e
 |t:: ts=>(forget e ts).set t Ent.none
def jU(e:Env)(vs:List AV)(i:Nat):List Nat->Env
 |[]=>e
 |t:: ts=>(jU e vs (i+1) ts).set t ⟨.val (aD vs i),none⟩
structure Foot where
 rl:Bool:=false
 wl:Bool:=false
 rh:Bool:=false
 wh:Bool:=false
 piv:Bool:=false
 ad:Bool:=false
 dr:Bool:=false
 nw:Bool:=false
def aw(cx:Cx)(o:Oper):Foot:=match o.op with
 |.move x=>{ ad:=bD x }
 |.assign x=>{ ad:=bD x }
 |.load ..=>match kR cx.ann.lm o.dst with
  |some _=>{ rh:=true }
  |none=>{ rl:=!(bX cx.ann.nl o.dst),rh:=bX cx.ann.hl o.dst,wh:=bX cx.ann.fz o.dst }
 |.store _ x y=>bif (match x with|.tmp p=>zt cx p|_=>false)then{ wh:=true }else{ wl:=true,wh:=!(match x with|.tmp p=>dM cx.ann.lw p|_=>false),ad:=(match x with|.tmp p=>!(gD cx.ann.nils p).isEmpty|_=>false)||bD y }
 |.alloc _=>match o.dst with
  |some s=>(match dw cx.ann.kinds s .L with|.F=>{}|.H=>{ wh:=true }|.B=>{ wh:=true }|_=>{ wl:=true,ad:=!(gD cx.ann.nils s).isEmpty })
  |none=>{}
 |.box ..=>match o.dst with
  |some s=>(match dw cx.ann.kinds s .F with|.F=>{}|.H=>{ wh:=true }|.B=>{ wh:=true }|_=>{ wl:=true })
  |none=>{}
 |.buildSlice ..=>bif bX cx.ann.ha o.dst then{ wh:=true }else{ ad:=!(bX cx.ann.no o.dst) }
 |.makeSlice ..=>bif bX cx.ann.ha o.dst then{ wh:=true }else{ ad:=true }
 |.slice _ _ _ _ mx=>bif bX cx.ann.so o.dst then{ ad:=true,dr:=true }else{ ad:=mx.isSome }
 |.panic _=>{ wh:=true,piv:=true }
 |.makeMap ..=>{ wh:=true }
 |.lookup ..=>{ rh:=true }
 |.mapUpdate ..=>{ wh:=true }
 |.insert ..=>{ wh:=true }
 |.range ..=>{ wh:=true }
 |.entry ..=>{ rh:=true }
 |.call c=>match c.callee with
  |.builtin .clear=>{ wh:=true }
  |.value (.func f)=>bif cx.iso f then{ ad:=(cx.own f).isSome }else{ wh:=true,piv:=true,nw:=cx.nw f&&!(bX cx.ann.fz o.dst),ad:=(cx.own f).isSome }
  |.value _=>{ wh:=true,piv:=true }
  |.builtin .append=>bif bX cx.ann.ha o.dst then{ wh:=true,dr:=true }else{ ad:=true,rh:=bX cx.ann.hl o.dst,dr:=match c.args.toList with|x:: _=>!bD x|[]=>false }
  |_=>{}
 |_=>{}
def df(o:Oper):Option Nat:=match o.op with
 |.store _ (.tmp p) _=>some p
 |_=>none
def iy(cx:Cx)(o:Oper):Bool:=!(aw cx o).wl&&!(aw cx o).dr
def kA(u:Upd):Upd:={ ent:=⟨u.ent.v,none⟩ }
def ly:Act1->Act1
 |.bad=>.bad
 |.stat u=>.stat (kA u)
 |.dyn m sh=>.dyn m fun v=>kA (sh v)
 |.thr v=>.thr v
def sk(x:Ent):Bool:=match x.v with
 |.val _=>true
 |.loc _ _=>false
section
variable {ρ:Type}
def td(e:Env)(d:Option Tmp)(a:Act1)(k:Env->M ρ):M ρ:=match a with
 |.bad=>gk
 |.stat u=>k (e.upd d u)
 |.dyn m sh=>aG m fun v=>k (e.upd d (sh v))
 |.thr v=>lz v
def nv(cx:Cx)(base:Nat)(ops:Array Oper)(st:Bool):List Nat->Env->(Env->M ρ)->M ρ
 |[],e,k=>k e
 |i:: is,e,k=>match ops[i]? with
  |none=>gk
  |some o=>td e o.dst (bif st then ly (iK cx e ((base+i)*1000) o)else iK cx e ((base+i)*1000) o) fun e'=>nv cx base ops st is e' k
def gn(cx:Cx)(base:Nat)(ops:Array Oper):List (Option (Nat×Bool)×List Nat)->Env->(Env->M ρ)->M ρ
 |[],e,k=>k e
 |(none,is):: gs,e,k=>nv cx base ops false is e fun e'=>gn cx base ops gs e' k
 | (some (j,want),is):: gs,e,k=>
  match dT ops j with
  |none=>gk
  | some t=>
   let outs:=fg ops is gs
   bif (is.all fun i=>match ops[i]? with|some o=>iy cx o&&o.dst.isSome|none=>false)&&!(dM (eu ops is) t)then
    aG (dI (e.av t) want outs.length (nv cx base ops true is e fun e'=>bif outs.all (fun t=>sk (e'.get t))then ao (outs.map e'.av)else gk)) fun vs=>
     gn cx base ops gs (jU (forget e (eu ops is)) vs 0 outs) k
   else gk
end
def clash:Option Nat->Option Nat->Bool
 |some s,some t=>Nat.beq s t
 |_,_=>false
def YS(o:Oper):Bool:=match o.op with
 |.load _ (.tmp _)=>true
 |_=>false
def YQ(o:Oper):Bool:=match o.op with
 |.alloc _=>o.guard.isNone
 |_=>false
def Gn(cx:Cx)(a b:Oper):Bool:=match a.op,b.op,a.dst,b.dst,a.guard,b.guard with
 |.store _ (.tmp p) _,.store _ (.tmp q) _,none,none,none,none=>(dM cx.ann.sl1 p&&!(dM cx.ann.sl1 q)&&dM cx.ann.sl0 q)||(dM cx.ann.sl1 q&&!(dM cx.ann.sl1 p)&&dM cx.ann.sl0 p)
 |_,_,_,_,_,_=>false
def GG(cx:Cx)(a b:Oper):Bool:=match a.op,b.op,a.dst,b.dst,a.guard,b.guard with
 |.alloc _,.alloc _,some s,some t,none,none=>!(Nat.beq s t)&&decide (s<1000)&&decide (t<1000)&&(aw cx a).wl&&(aw cx b).wl&&(gD cx.ann.nils s).isEmpty&&(gD cx.ann.nils t).isEmpty
 |_,_,_,_,_,_=>false
def yI(cx:Cx)(a b:Oper):Bool:=match a.op,b.op,a.dst,b.dst,a.guard,b.guard with
 | .load _ (.tmp p),.call c,some s,some t,none,none=>(match c.callee with
  |.value (.func _)=>!(Nat.beq s t)&&!(Nat.beq t p)&&decide (s<1000)&&decide (t<1000)&&!(dM (jh b) s)&&!(bX cx.ann.fz b.dst) &&
   (match kR cx.ann.lm a.dst,kR cx.ann.cm b.dst with
   |some (m,r),some (m',r')=>Nat.beq m m'&&Nat.beq r r'
   |_,_=>false)
  |_=>false)
 |_,_,_,_,_,_=>false
def tA(cx:Cx)(ops:Array Oper)(i j:Nat):Bool:=match ops[i]?,ops[j]? with
 |some a,some b=>
  let x:=aw cx a;let y:=aw cx b
  Gn cx a b||GG cx a b||yI cx a b||!x.piv&&!(x.wl&&(y.rl||y.wl))&&!(x.rl&&y.wl&&!(YS a&&YQ b))&&!(x.wh&&(y.rh||y.wh))&&!(x.rh&&y.wh&&!y.nw) &&
  !(x.dr&&(y.dr||y.ad))&&!(x.ad&&y.dr)&&!(x.ad&&y.ad&&(x.wl||y.wl)) &&
  !(bX (eQ ops j) a.dst)&&!(bX (eQ ops i) b.dst)&&!(bX (eQ ops j) (df a))&&!(bX (eQ ops i) (df b)) &&
  !(clash (df a) b.dst)&&!(clash a.dst (df b))&&!(clash a.dst b.dst)
 |_,_=>false
def nN(acc:List Nat):List Edge->Nat
 |[]=>0
 |x:: xs=>bif Region.binds .any x then nN acc xs ||| 2 ^ x.on ||| acc.getD x.on 0 else nN acc xs
def G0:List Oper->List Nat->List Nat
 |[],acc=>acc
 |o:: os,acc=>G0 os (acc++[nN acc o.after.toList])
def pk(cx:Cx)(ops:Array Oper)(bf:List Nat):List Nat->Bool
 |[]=>true
 |i:: is=>!((bf.getD i 0).testBit i)&&(is.all fun j=>!((bf.getD i 0).testBit j)&&((bf.getD j 0).testBit i||tA cx ops i j))&&pk cx ops bf is
def N4(n:Nat)(ord:List Nat):Bool:=Nat.beq ord.length n&&((List.range n).all fun i=>dM ord i)
def distinct:List Nat->Bool
 |[]=>true
 |i:: is=>!(dM is i)&&distinct is
def od(n:Nat)(ops:Array Oper):Bool:=ops.all fun o=>(match o.dst with|some t=>decide (t<n)|none=>true)&&(jh o).all fun t=>decide (t<1000)
def gP(m:M α):M α:=fun h=>match m h with
 |.ok a h'=>.ok a h'
 |.pan _ _=>.fail
 |.fail=>.fail
def iF(cx:Cx):Cx:={ cx with call:=fun f args=>bif cx.iso f then gP (cx.call f args)else cx.call f args }
def rU(cx:Cx)(ops:Array Oper)(ord:List Nat):Bool:=
 N4 ops.size ord&&distinct ord&&(ord.all fun i=>decide (i<ops.size))&&(G0 ops.toList []).all (fun m=>decide (m<2 ^ ops.size))&&pk cx ops (G0 ops.toList []) ord
def BN(cx:Cx)(id n:Nat):List Nat:=match MU cx.ann.ords id with
 |some l=>l
 |none=>List.range n
def vM{ρ:Type}(cx:Cx)(id:Nat)(ops:Array Oper)(draw:Bool)(e:Env)(k:Env->M ρ):M ρ:=
 bif od cx.nt ops then
  (bif draw then
   (bif rU cx ops (BN cx id ops.size)then gn (iF cx) e.nx ops (fF ops (BN cx id ops.size)) e fun e'=>k { e' with nx:=e.nx+ops.size }else gk)
  else gn cx e.nx ops (fF ops (List.range ops.size)) e fun e'=>k { e' with nx:=e.nx+ops.size })
 else gk
noncomputable def qd{ρ:Type}(cx:Cx)(id:Nat)(ops:Array Oper)(draw:Bool)(e:Env)(k:Env->M ρ):M ρ:=match yR ops draw with
 |none=>vM cx id ops draw e k
 | some (p,d,q)=>bif decide (p<1000)&&decide (d<cx.nt)&&decide (q<cx.nt)then
   sF (e.av p) (k ((e.set d Ent.none).set q ⟨.val (.bool false),none⟩)) (k ((e.set d Ent.none).set q ⟨.val (.bool true),none⟩))else gk
def kV(e:Env):List (Nat×Option Nat)->List Nat->Option (List AV)
 |[],_=>some []
 | (t,none):: r,used=>match (e.get t).v with
  |.val a=>match kV e r used with
   |some vs=>some (a:: vs)
   |none=>none
  |.loc _ _=>none
 | (t,some sz):: r,used=>match (e.get t).v,(e.get t).g with
  | .val a,some g=>match aQ e.al g with
   |none=>none
   | some z=>bif (match z with|none=>true|some n=>Nat.beq n sz)&&!(dM used g)then
     match kV e r (g:: used)with
     |some vs=>some (a:: vs)
     |none=>none
    else none
  |_,_=>none
def yK(e:Env):List (Nat×Nat×Nat)->Bool
 |[]=>true
 |(t,B,off):: r=>(match (e.get t).v with
  |.loc B' off'=>Nat.beq B B'&&Nat.beq off off'
  |.val _=>false)&&yK e r
def Fz(e:Env):List (Nat×Nat)->Bool
 |[]=>true
 |(B,n):: r=>(match bb e.lb B with
  |some m=>Nat.beq n m
  |none=>false)&&Fz e r
def pack(ja:JA)(e:Env):Option (List AV):=
 bif yK e ja.locs&&Fz e ja.lbs then kV e ja.vals []else none
def dY(vs:List AV):Nat->List (Nat×Option Nat)->List (Nat×Ent)
 |_,[]=>[]
 |i,(t,none):: r=>(t,⟨.val (aD vs i),none⟩):: dY vs (i+1) r
 |i,(t,some _):: r=>(t,⟨.val (aD vs i),some i⟩):: dY vs (i+1) r
def oK:Nat->List (Nat×Option Nat)->List (Nat×Option Nat)
 |_,[]=>[]
 |i,(_,none):: r=>oK (i+1) r
 |i,(_,some sz):: r=>(i,some sz):: oK (i+1) r
def unpack(ja:JA)(vs:List AV):Env:=
 { sl:=dY vs 0 ja.vals++ja.locs.map (fun x=>(x.1,⟨.loc x.2.1 x.2.2,none⟩)),al:=oK 0 ja.vals,nx:=ja.vals.length,lb:=ja.lbs }
def wS:Code->Option Nat
 |.cond (.tmp t) _ _=>some t
 |.seq _ y=>wS y
 |.block id _=>some (1000000+id)
 |_=>none
abbrev jW(ρ:Type):=((List AV->M ρ)->List AV->M ρ)->List AV->M ρ
def fzL(vs:List AV):M (List AV):=fun h=>.ok (vs.map (jt 6 h)) (h.map fun _=>[])
def zJ{ρ:Type}(ja:JA)(j:List AV->M ρ)(e:Env):M ρ:=match pack ja e with
 |some vs=>bif ja.fz then aG (fzL vs) j else j vs
 |none=>gk
section
variable {ρ:Type}
noncomputable def ev(cx:Cx)(fx:jW ρ):Code->Env->(Env->M ρ)->(Nat->Env->M ρ)->(Env->M ρ)->M ρ
 |.skip,e,kn,_,_=>kn e
 |.region id ops draw,e,kn,_,_=>qd cx id ops draw e kn
 |.seq x y,e,kn,kx,kr=>
  match (match wS x with|some t=>xW cx.ann.joins t|none=>none)with
  |some ja=>jn (fun vs=>ev cx fx y (unpack ja vs) kn kx kr) fun j=>ev cx fx x e (zJ ja j) kx kr
  |none=>ev cx fx x e (fun e'=>ev cx fx y e' kn kx kr) kx kr
 |.cond (.tmp t) x y,e,kn,kx,kr=>bif decide (t<1000)then gW (e.av t) (ev cx fx x e kn kx kr) (ev cx fx y e kn kx kr)else gk
 |.cond (.const v) x y,e,kn,kx,kr=>gW (cA v) (ev cx fx x e kn kx kr) (ev cx fx y e kn kx kr)
 |.block id (.loop b),e,kn,kx,kr=>
  match xW cx.ann.loops id with
  |none=>gk
  |some ja=>zJ ja (fx fun self vs=>ev cx fx b (unpack ja vs) (zJ ja self) (fun i e'=>bif Nat.beq i id then kn e' else kx i e') kr) e
 |.block id c,e,kn,kx,kr=>ev cx fx c e kn (fun i e'=>bif Nat.beq i id then kn e' else kx i e') kr
 |.exit id,e,_,kx,_=>kx id e
 |.ret,e,_,_,kr=>kr e
 |_,_,_,_,_=>gk
end
def F7(T:TT)(e:Env):ResultVar->Option AV
 |.tmp t=>bif decide (t<1000)then(match (e.get t).v with
  |.val a=>some a
  |.loc _ _=>none)else none
 | .cell p t=>bif decide (p<1000)then(match (e.get p).v,T t with
  | .loc B off,some ti=>bif nh e B off ti.size then
    (bif ti.agg then some (.agg (pE e (B+off) ti.size))else bif decide (ti.size=1)then some (e.av (B+off))else none)
   else none
  |.val a,some _=>ay T t a
  |_,_=>none)else none
def kv(T:TT)(e:Env):List ResultVar->Option (List AV)
 |[]=>some []
 |r:: rs=>match F7 T e r,kv T e rs with
  |some v,some vs=>some (v:: vs)
  |_,_=>none
def rK:List AV->AV
 |[v]=>v
 |vs=>.tup vs
def Dl(fn:Func)(e:Env)(sz:Nat):Bool:=match fn.results.toList with
 |[.tmp t]=>decide (t<1000)&&(match (e.get t).g with
  |some g=>(match aQ e.al g with|some z=>DO z (some sz)|none=>false)
  |none=>false)
 |_=>false
def oH(cx:Cx)(fn:Func)(own:Option Nat)(e:Env):M AV:=
 bif (match own with|some sz=>Dl fn e sz|none=>true)then aG (bJ ((kv cx.T e fn.results.toList).map rK)) (bif cx.ann.rz then(bif own.isSome then fun _=>gk else Jm)else ao)else gk
def En:Nat->List AV->List (Nat×Ent)
 |_,[]=>[]
 |i,a:: as=>(i,⟨.val a,none⟩):: En (i+1) as
def wL(args:List AV):Env:={ sl:=En 0 args,al:=[],nx:=0,lb:=[] }
def tD(n:Nat)(ks:List (Nat×Kind)):Bool:=ks.all fun x=>!(KW x.2)||decide (x.1<n)
noncomputable def cj(cx:Cx)(fx:jW AV)(fn:Func)(own:Option Nat)(args:List AV):M AV:=
 match fn.body with
 |none=>gk
 | some c=>bif decide (args.length<=fn.ntmps)&&decide (fn.ntmps<=1000)&&tD cx.nt cx.ann.kinds then
   ev cx fx c (wL args) (oH cx fn own) (fun _ _=>gk) (oH cx fn own)
  else gk
def Ad(m:List AV->M AV)(args:List AV):M AV:=fun h=>match m (eB ai args) []with
 |.ok r h'=>.ok (jt 6 h' r) h
 |.pan v h'=>.pan (jt 6 h' v) h
 |.fail=>.fail
structure Pg where
 T:TT
 funcs:FuncId->Option (Func×Ann)
 own:FuncId->Option Nat
 other:FuncId->Option ((FuncId->List AV->M AV)->List AV->M AV)
 nw:FuncId->Bool:=fun _=>false
def Pg.iso(p:Pg)(f:FuncId):Bool:=match p.other f with
 |some _=>false
 |none=>match p.funcs f with
  |some (_,a)=>a.iso
  |none=>false
def Pg.cx(p:Pg)(call:FuncId->List AV->M AV)(n:Nat)(a:Ann):Cx:={ T:=p.T,call,own:=p.own,iso:=p.iso,nw:=p.nw,nt:=n,ann:=a }
noncomputable def lD(p:Pg)(call:FuncId->List AV->M AV)(fx:jW AV)(f:FuncId)(args:List AV):M AV:=
 match p.other f with
 |some E=>E call args
 |none=>match p.funcs f with
  |none=>gk
  |some (fn,a)=>bif a.iso then Ad (cj (p.cx call fn.ntmps a) fx fn (p.own f)) args else cj (p.cx call fn.ntmps a) fx fn (p.own f) args
noncomputable def dQ(p:Pg):Nat->FuncId->List AV->M AV
 |0,_,_=>gk
 |n+1,f,args=>lD p (dQ p n) (dV n) f args
def kindOf:TypeDesc->TK
 |.bool=>.bool
 |.int k=>.int k
 |.string=>.str
 |.slice e=>.slice e
 |.struct _=>.struct
 |.array n e=>.array n e
 |.interface _=>.iface
 |.pointer _=>.ptr
 |.func _ _ _=>.func
 |.map k e=>.map k e
 |_=>.other
def Az:TypeDesc->Bool
 |.struct _=>true
 |.array _ _=>true
 |_=>false
def sG:TypeDesc->List (Nat×Nat×Bool)
 |.struct fs=>fs.toList.map fun f=>(f.offset,f.type,decide (f.name≠ "_"))
 |_=>[]
def LX:Value->Bool
 |.agg _=>true
 |_=>false
def CR(P:Program)(t:TypeId):TypeDesc->Bool
 |.struct _=>!(P.stoodInHeld t)&&!(P.eqGuardType P.depth t)
 |_=>false
def V2(P:Program)(t:TypeId):Option TI:=
 match P.info? t,P.underlying t with
 | some i,some d=>match i.zero with
  | some z=>bif Nat.beq z.cells.size i.size&&(LX z== Az d)then
    some { agg:=Az d,size:=i.size,bytes:=i.bytes,kind:=kindOf d,offs:=sG d,zero:=z.cells.toList.map I3,eqok:=CR P t d }
   else none
  |none=>none
 |_,_=>none
structure TOK (P:Program) (T:TT):Prop where
 ok:∀t ti,T t=some ti->V2 P t=some ti
 mix:P.follows .mixedOrders=true
structure TIok (P:Program) (t:TypeId) (ti:TI):Prop where
 ex:∃i d z,P.info? t=some i/\P.underlying t=some d/\i.zero=some z/\z.cells.size=i.size/\i.size=ti.size/\i.bytes=ti.bytes/\
  kindOf d=ti.kind/\Az d=ti.agg/\sG d=ti.offs/\z.cells.toList.map I3=ti.zero/\CR P t d=ti.eqok/\
  (ti.agg=true->∃cs,z= .agg cs)/\(ti.agg=false->∀cs,z≠.agg cs)
variable {ti:TI}
theorem TOK.get{P:Program}{T:TT}(h:TOK P T){t:TypeId}(ht:T t=some ti):TIok P t ti:=by
 have:=h.ok t ti ht
 unfold V2 at this;split at this
 ·rename_i i d hi hd;split at this
  ·rename_i z hz;cases hb:(Nat.beq z.cells.size i.size&&(LX z== Az d))with
   |false=>grind
   | true=>
    rw[hb]at this;simp only[acD,acz]at this;subst this;rw[acB]at hb;obtain⟨h1,h2⟩:=hb;have h2:LX z=Az d:=by simpa using h2
    refine⟨i,d,z,hi,hd,hz,Nat.eq_of_beq_eq_true h1,rfl,rfl,rfl,rfl,rfl,rfl,rfl,fun hx=>?_,fun hx cs hz'=>?_⟩
    ·simp only[<- h2]at hx;cases z<;>simp_all[LX]
    grind [LX]
  ·simp at this
 ·simp at this
def Co(S:az)(β:List bQ)(v:Value):VR S β (I3 v) v:=by
 unfold I3;split<;>simp only[VR,cr,acS]
 all_goals grind
theorem Cp(S:az)(β:List bQ)(vs:List Value):be S β (vs.map I3) vs:=by
 induction vs with
 |nil=>simp[be]
 |cons v vs ih=>simp only[ac3,be];exact⟨v,vs,rfl,Co S β v,ih⟩
def WY(S:az)(β:List bQ)(v:Value):VR S β (cA v) v:=by
 unfold cA;split
 ·grind [VR,Cp]
 ·rename_i vs;cases h:vs.isEmpty with
  |false=>simp[VR]
  |true=>
   simp_all[VR,be]
 ·exact Co S β v
def xn(P:Program)(w:World)(S:az)(β:List bQ)(m:Sem Value)(r:AV):Prop:=∃v,m.run P w= .ok v w/\VR S β r v
variable {r x:AV}{vx:Value}
section
variable {P:Program} {T:TT} {w:World} {S:az} {β:List bQ}
theorem run_sizeOf{t:TypeId}{i:TypeInfo}(h:P.info? t=some i):(sizeOf t).run P w= .ok i.size w:=by
 simp[sizeOf,typeInfo,h]
theorem ky{t:TypeId}{d:TypeDesc}(h:P.underlying t=some d):(isAgg t).run P w= .ok (Az d) w:=by
 simp only[isAgg,Sem.run_bind,run_underlying h,Result.andThen_ok];cases d<;>rfl
theorem VR.int_inv{k:IntKind}{n:Int}{v:Value}(h:VR S β (.int k n) v):v= .int k n:=by simpa [VR]using h
theorem QU{c a b:AV}{vc va vb:Value}(h:oE c a b=some r)(hc:VR S β c vc)(ha:VR S β a va)(hb:VR S β b vb):
  ∃v,(do pure (if <- asBool vc then va else vb):Sem Value).run P w= .ok v w/\VR S β r v:=by
 unfold oE at h;split at h
 all_goals simp_all[VR,asBool]
theorem tY(hT:TOK P T){t:TypeId}(ht:T t=some ti)(h:be S β cs vs)(hr:wn ti cs off=some r):xn P w S β (part t vs.toArray off) r:=by
 obtain⟨i,d,z,hi,hd,_,_,hsz,_,_,hag,_⟩:=(hT.get ht).ex;unfold wn at hr;cases ha:ti.agg with
 | true=>
  rw[ha]at hr;simp only[acD,acz]at hr;subst hr;refine⟨.agg (vs.toArray.extract off (off+ti.size)),?_,?_⟩
  ·simp_all[part,ky,run_sizeOf]
  ·simp only[VR];refine⟨(vs.drop off).take ti.size,?_,(h.drop off).take _⟩
   grind
 |false=>
  rw[ha]at hr;simp only[acO]at hr;obtain⟨v,hv,hR⟩:=h.get hr;refine⟨v,?_,hR⟩;simp_all[part,ky]
theorem zG:∀a b:List UInt8,Op.bytesLess a b=aU a b
 |a,[]=>by grind [Op.bytesLess,aU]
 |[],_:: _=>rfl
 |a:: x,b:: y=>by simp[Op.bytesLess,aU,zG x y]
theorem EG{a b:ByteArray}:(a.data.toList=b.data.toList)↔a=b:=by
 constructor
 ·intro h;cases a;simp_all
 grind
mutual
theorem xN(hT:TOK P T):(d:Nat)->(D:Nat)->d<=D->(t:TypeId)->(x y:AV)->(vx vy:Value)->(b:Bool)->vK T d t x y=some b->VR S β x vx->VR S β y vy->
  (Op.equalIn D t vx vy).run P w= .ok b w
 |0,_,_,t,x,y,vx,vy,b,h,_,_=>by simp[vK]at h
 |d+1,0,hD,_,_,_,_,_,_,_,_,_=>WD
 | d + 1,D+1,hD,t,x,y,vx,vy,b,h,hx,hy=>by
  unfold vK at h;cases ht:T t with
  |none=>grind
  | some ti=>
   rw[ht]at h;obtain⟨i,dd,z,hi,hd,_,_,hsz,_,hk,hag,hof,_,heq,_⟩:=(hT.get ht).ex;simp only at h;unfold Op.equalIn;simp only[Sem.run_bind,run_underlying hd,Result.andThen_ok];split at h
   case h_1=>simp at h;simp only[VR]at hx hy;subst hx hy h;cases dd<;>simp_all[kindOf]
   case h_2=>
    simp only[VR]at hx hy;subst hx hy;split at h
    ·rename_i hkk;simp at h;subst h;cases dd<;>simp_all[kindOf]
    ·simp at h
   case h_3=>
    simp only[VR]at hx hy;obtain⟨x,rfl,hx⟩:=hx;obtain⟨y,rfl,hy⟩:=hy;simp at h;subst h;have hdd:dd= .string:=by cases dd<;>simp_all[kindOf]
    grind [Sem.run_pure,beq_toListBytes,ByteArray.toList_eq]
   case h_4=>simp at h;simp only[VR]at hx hy;subst hx hy h;cases dd<;>simp_all[kindOf]
   case h_5=>simp at h;simp only[VR]at hx hy;obtain⟨_,_,_,rfl,_⟩:=hy;subst hx h;cases dd<;>simp_all[kindOf]
   case h_6=>simp at h;simp only[VR]at hx hy;obtain⟨_,_,_,rfl,_⟩:=hx;subst hy h;cases dd<;>simp_all[kindOf]
   case h_7=>simp at h;simp only[VR]at hx hy;obtain⟨_,_,_,rfl⟩:=hy;subst hx h;cases dd<;>simp_all[kindOf]
   case h_8=>simp at h;simp only[VR]at hx hy;obtain⟨_,_,_,rfl⟩:=hx;subst hy h;cases dd<;>simp_all[kindOf]
   case h_9=>simp at h;simp only[VR]at hx hy;obtain⟨_,rfl,_⟩:=hy;subst hx h;cases dd<;>simp_all[kindOf]
   case h_10=>simp at h;simp only[VR]at hx hy;obtain⟨_,rfl,_⟩:=hx;subst hy h;cases dd<;>simp_all[kindOf]
   case h_11 xs ys hkind=>
    cases hok:ti.eqok with
    |false=>grind
    | true=>
     rw[hok]at h;simp only[acD]at h;simp only[VR]at hx hy;obtain⟨vx,rfl,hx⟩:=hx;obtain⟨vy,rfl,hy⟩:=hy;cases dd<;>simp only[kindOf,hkind,reduceCtorEq]at hk;rename_i fs;have hst:P.stoodInHeld t=false:=by
      rw[hok]at heq;simp[CR]at heq;exact heq.1
     have hfs:P.fieldsOf t=fs:=by simp[Program.fieldsOf,hd]
     have:=run_equalIn_struct (P:=P) w D t vx.toArray vy.toArray qr hst
     unfold Op.equalIn at this;simp only[Sem.run_bind,run_underlying hd,Result.andThen_ok]at this;rw[<- hof]at h;have h2:=CO hT d D WD fs.toList xs ys vx vy b h hx hy;simp_all
   case h_12=>simp at h;simp only[VR]at hx hy;subst hx hy h;cases dd<;>simp_all[kindOf]
   case h_13=>simp at h;simp only[VR]at hx hy;obtain⟨a,cap,rfl,h1,h2,_⟩:=hx;subst hy h;cases a<;>cases dd<;>simp_all[kindOf]
   case h_14=>simp at h;obtain⟨_,_,rfl,_⟩:=hx.hs_some;simp only[VR]at hy;subst hy h;cases dd<;>simp_all[kindOf]
   case h_15=>simp at h;simp only[VR]at hx hy;subst hx hy h;cases dd<;>simp_all[kindOf]
   grind
theorem CO(hT:TOK P T):(d:Nat)->(D:Nat)->d<=D->(fs:List Field)->(xs ys:List AV)->(vx vy:List Value)->(b:Bool)->
  Hu T d (fs.map fun f=>(f.offset,f.type,decide (f.name≠ "_"))) xs ys=some b->be S β xs vx->be S β ys vy->
  (Op.eqFields D vx.toArray vy.toArray fs).run P w= .ok b w
 |d,D,hD,[],xs,ys,vx,vy,b,h,_,_=>by
  simp_all[Hu,Op.eqFields]
 |0,D,hD,f:: fs,xs,ys,vx,vy,b,h,_,_=>by simp[Hu]at h
 | d + 1,D,hD,f:: fs,xs,ys,vx,vy,b,h,hx,hy=>by
  simp only[ac3,Hu]at h;unfold Op.eqFields
  by_cases hn:f.name= "_"
  ·simp only[hn,ne_eq,not_true,adg,acO]at h;simp only[hn,ne_eq,not_true,acI];exact CO hT d D WD fs xs ys vx vy b h hx hy
  ·simp only[ne_eq,hn,not_false_eq_true,acX,acD]at h;simp only[ne_eq,hn,not_false_eq_true,acK];cases ht:T f.type with
   |none=>grind
   | some ti=>
    rw[ht]at h;simp only at h;split at h
    ·rename_i a c ha hc;obtain⟨va,hva,hra⟩:=tY (w:=w) (S:=S) (β:=β) hT ht hx ha;obtain⟨vc,hvc,hrc⟩:=tY (w:=w) (S:=S) (β:=β) hT ht hy hc;simp only[Sem.run_bind,hva,hvc,Result.andThen_ok];split at h
     ·rename_i he;rw[xN hT d D WD f.type a c va vc true he hra hrc];simp only[Result.andThen_ok,adb,acA,acI];exact CO hT d D WD fs xs ys vx vy b h hx hy
     ·rename_i he;rw[xN hT d D WD f.type a c va vc false he hra hrc];simp_all
     ·simp at h
    ·simp at h
end
theorem UH(hT:TOK P T){op:BinOp}{t:TypeId}{y:AV}{vy:Value}(ox oy:Operand)(hlit:yA T op t ox oy=false)(h:bN T op t x y=some r)(hx:VR S β x vx)(hy:VR S β y vy):
  xn P w S β (do eqGuard op t ox oy vx vy;binOp op t vx vy) r:=by
 unfold bN at h;split at h
 ·rename_i k a k' c
  have:=hx.int_inv;subst this
  have:=hy.int_inv;subst this
  have hg:(eqGuard op t ox oy (.int k a) (.int k' c)).run P w= .ok () w:=by cases op<;>simp[eqGuard]
  unfold xn;simp only[Sem.run_bind,hg,Result.andThen_ok];cases hs:CZ op with
  | true=>
   rw[hs]at h;simp only[acD,shA]at h;split at h
   ·simp at h
   ·rename_i hc;split at h
    ·simp at h;subst h;exact⟨_,by simp[binOp,Op.shift,hc];rfl,by simp[VR]⟩
    ·simp at h;subst h;exact⟨_,by simp[binOp,Op.shift,hc];rfl,by simp[VR]⟩
    ·simp at h
  | false=>
   rw[hs]at h;simp only[acO]at h;split at h
   ·rename_i hk;subst hk;unfold YP at h;cases op<;>simp only[CZ,ad6]at hs h <;>
     first
     |(simp only[acz]at h;subst h;exact⟨_,by simp[binOp,Op.intArith,Op.intBits,Op.intCmp];rfl,by simp[VR]⟩)
     | (split at h
        ·simp at h
        ·rename_i hc;simp only[acz]at h;subst h;simp_all[binOp,Op.intDiv,VR])
   ·simp at h
 ·rename_i a c;simp only[VR]at hx hy;obtain⟨x,rfl,hx⟩:=hx;obtain⟨y,rfl,hy⟩:=hy;have hg:(eqGuard op t ox oy (.string x) (.string y)).run P w= .ok () w:=by cases op<;>simp[eqGuard]
  unfold xn;simp only[Sem.run_bind,hg,Result.andThen_ok];have hxs:x.size=a.length:=by rw[<- hx,adE];rfl
  have hys:y.size=c.length:=by rw[<- hy,adE];rfl
  unfold Zy at h;cases op<;>simp only[reduceCtorEq]at h
  case add=>
   split at h
   ·rename_i hle;simp only[acz]at h;subst h;refine⟨.string (x++y),?_,?_⟩
    ·have hm:IntKind.max .i64=9223372036854775807:=Vc
     have:¬(((x.size+y.size:Nat):Int)>IntKind.max .i64):=by rw[hxs,hys,hm];omega
     simp_all[binOp,Op.stringOp]
    ·simp only[VR];simp_all
   ·simp at h
  all_goals
   simp only[acz]at h;subst h;refine⟨_,by simp only[binOp,Op.stringOp,Sem.run_pure];rfl,?_⟩;simp only[VR,ByteArray.toList_eq,hx,hy,zG]
 ·rename_i hn1 hn2
  have key:∀b,vK T 20 t x y=some b->∀o,(o= .eql\/o= .neq)->yA T o t ox oy=false->(eqGuard o t ox oy vx vy).run P w= .ok () w/\(binOp .eql t vx vy).run P w= .ok (.bool b) w/\(binOp .neq t vx vy).run P w= .ok (.bool !b) w:=by
   intro b hb;have he:=xN (w:=w) (S:=S) (β:=β) hT 20 Op.maxDepth Vc t x y vx vy b hb hx hy;have hb0:=hb;unfold vK at hb;cases ht:T t with
   |none=>grind
   | some ti=>
    rw[ht]at hb;simp only at hb;split at hb
    case h_1=>simp only[VR]at hx hy;subst hx hy;rintro o (rfl|rfl) _<;>simp[eqGuard,binOp,Op.equal,he]
    case h_2=>grind
    case h_3=>grind
    case h_4=>simp only[VR]at hx hy;subst hx hy;rintro o (rfl|rfl) _<;>simp[eqGuard,binOp,Op.equal,he]
    case h_5=>simp only[VR]at hx hy;obtain⟨_,_,_,rfl,_⟩:=hy;subst hx;rintro o (rfl|rfl) _<;>simp[eqGuard,binOp,Op.equal,he]
    case h_6=>simp only[VR]at hx hy;obtain⟨_,_,_,rfl,_⟩:=hx;subst hy;rintro o (rfl|rfl) _<;>simp[eqGuard,binOp,Op.equal,he]
    case h_7=>simp only[VR]at hx hy;obtain⟨_,_,_,rfl⟩:=hy;subst hx;rintro o (rfl|rfl) _<;>simp[eqGuard,binOp,Op.equal,he]
    case h_8=>simp only[VR]at hx hy;obtain⟨_,_,_,rfl⟩:=hx;subst hy;rintro o (rfl|rfl) _<;>simp[eqGuard,binOp,Op.equal,he]
    case h_9=>simp only[VR]at hx hy;obtain⟨_,rfl,_⟩:=hy;subst hx;rintro o (rfl|rfl) _<;>simp[eqGuard,binOp,Op.equal,he]
    case h_10=>simp only[VR]at hx hy;obtain⟨_,rfl,_⟩:=hx;subst hy;rintro o (rfl|rfl) _<;>simp[eqGuard,binOp,Op.equal,he]
    case h_11 xs ys hkind=>
     cases hok:ti.eqok with
     |false=>grind
     | true=>
      obtain⟨i,dd,z,hi,hd,_,_,hsz,_,hk,hag,hof,_,heq,_⟩:=(hT.get ht).ex;have hgt:P.eqGuardType P.depth t=false:=by
       rw[hok]at heq;cases dd<;>simp[CR]at heq;exact heq.2
      simp only[VR]at hx hy;obtain⟨vx,rfl,hx⟩:=hx;obtain⟨vy,rfl,hy⟩:=hy;rintro o (rfl|rfl)<;>exact fun _=>⟨run_eqGuard_agg w _ t ox oy _ _ hgt,by simp[binOp,Op.equal,he],by simp[binOp,Op.equal,he]⟩
    case h_12=>simp only[VR]at hx hy;subst hx hy;rintro o (rfl|rfl) _<;>simp[eqGuard,binOp,Op.equal,he]
    case h_13=>simp only[VR]at hx hy;obtain⟨_,_,rfl,_⟩:=hx;subst hy;simp only[acR]at he;rintro o (rfl|rfl) _<;>simp[eqGuard,binOp,Op.equal,he]
    case h_14=>obtain⟨_,_,rfl,_⟩:=hx.hs_some;simp only[VR]at hy;subst hy;rintro o (rfl|rfl) _<;>simp[eqGuard,binOp,Op.equal,he]
    case h_15 hkind=>
     simp only[VR]at hx hy;subst hx hy;rintro o (rfl|rfl) hl <;>
     ·have hc:isLit ox=true\/isLit oy=true:=by
       unfold yA at hl;rw[ht]at hl;simp only[hkind,aep,aeU,aey]at hl;rcases hl with(hl|hl)
       ·exact .inl hl
       ·exact .inr hl
      rcases hc with hc|hc
      ·cases ox<;>simp[isLit]at hc;simp[eqGuard,binOp,Op.equal,he]
      ·cases oy<;>simp[isLit]at hc;simp[eqGuard,binOp,Op.equal,he]
    grind
  cases op<;>simp only[reduceCtorEq]at h
  case eql=>
   rw[adX]at h;obtain⟨b,hb,rfl⟩:=h;obtain⟨h1,h2,_⟩:=key b hb .eql (.inl rfl) hlit;exact⟨.bool b,AN,by simp[VR]⟩
  case neq=>
   rw[adX]at h;obtain⟨b,hb,rfl⟩:=h;obtain⟨h1,_,h2⟩:=key b hb .neq (.inr rfl) hlit;exact⟨.bool !b,AN,by simp[VR]⟩
end
def Wf(S:az)(w:World):Prop:=∀(b o:Nat)(v:Value),S b o=some v->w.cell? ⟨b,o,none⟩=some v
variable {t:Nat}
section
variable {P:Program} {T:TT} {w:World} {S:az} {β:List bQ}
theorem addr_add(b o n:Nat):(⟨b,o,none⟩:Addr).add n=⟨b,o+n,none⟩:=by
 grind [Addr.add]
theorem ZG{op:UnOp}(h:Sa op x=some r)(hx:VR S β x vx):xn P w S β (Op.unary op vx) r:=by
 unfold Sa at h;split at h
 ·simp at h;subst h;simp only[VR]at hx;subst hx;exact⟨_,by simp[Op.unary];rfl,by simp[VR]⟩
 ·simp only[acz]at h;subst h;simp only[VR]at hx;subst hx;exact⟨_,by simp only[Op.unary,Op.intArith,Sem.run_pure];rfl,by simp[VR]⟩
 ·simp at h
theorem PK(hT:TOK P T){s d:TypeId}(h:AW T s d x=some r)(hx:VR S β x vx):xn P w S β (convert s d vx) r:=by
 unfold AW at h;split at h
 ·rename_i si di hs hd;obtain⟨_,sd,_,_,hsd,_⟩:=(hT.get hs).ex;obtain⟨_,dd,_,_,hdd,_,_,_,_,hk,_⟩:=(hT.get hd).ex;split at h
  ·rename_i k _ n hkk;simp only[acz]at h;subst h;simp only[VR]at hx;subst hx;cases dd<;>simp only[kindOf,hkk,reduceCtorEq,TK.int.injEq]at hk;subst hk;exact⟨_,by simp[convert,run_underlying hsd,run_underlying hdd,Conv.intToInt];rfl,by simp only[VR]⟩
  ·rename_i s hkk;simp only[acz]at h;subst h;have hx':=hx;simp only[VR]at hx;obtain⟨y,rfl,_⟩:=hx;cases dd<;>simp only[kindOf,hkk,reduceCtorEq]at hk;refine⟨_,?_,hx'⟩;simp_all[convert,run_underlying]
  ·simp at h
 ·simp at h
theorem tj(hT:TOK P T){f:Nat}(h:ar T t x f=some r)(hx:VR S β x vx):xn P w S β (Instr.fieldAt t vx f) r:=by
 unfold ar at h;split at h
 ·simp at h
 ·rename_i ti ht;obtain⟨_,d,_,_,hd,_,_,_,_,_,_,hof,_⟩:=(hT.get ht).ex;split at h
  ·simp at h
  ·rename_i o ft nm hf;rw[<- hof]at hf;obtain⟨fs,rfl⟩:∃fs,d= .struct fs:=by cases d<;>simp_all[sG]
   simp only[sG]at hf;rw[adK]at hf;cases hff:fs.toList[f]? with
   |none=>grind
   | some fd=>
    rw[hff]at hf;simp at hf;obtain⟨rfl,rfl,_⟩:=hf;have hff':fs[f]? = some fd:=by simpa using hff
    split at h
    ·simp at h
    ·rename_i fi hfi;obtain⟨ii,_,_,hii,_,_,_,hsz,_⟩:=(hT.get hfi).ex;split at h
     ·simp at h
     ·rename_i hne;have hz:¬(ii.size=0):=by rw[hsz];exact hne
      split at h
      ·simp only[acz]at h;subst h;simp only[VR]at hx;obtain⟨b,off,vs,rfl,hv,hc⟩:=hx;refine⟨.pointer (some ⟨b,off+fd.offset,none⟩),?_,?_⟩
       ·simp_all[Instr.fieldAt,run_underlying,Instr.sureAddr,fieldPlace,run_sizeOf,addr_add]
       ·simp only[VR];refine⟨b,off+fd.offset,vs.drop fd.offset,rfl,hv.drop _,fun j v hj=>?_⟩;rw[ad5]at hj
        have:=hc _ _ hj
        grind
      ·rename_i l off;simp only[acz]at h;subst h;simp only[VR]at hx;obtain⟨b,hb,hb0,rfl⟩:=hx;refine⟨.pointer (some ⟨b.1,off+fd.offset,none⟩),?_,?_⟩
       ·simp_all[Instr.fieldAt,run_underlying,Instr.sureAddr,fieldPlace,run_sizeOf,addr_add]
       ·simp only[VR];grind
      ·simp at h
theorem EJ{S:az}{β:List bQ}{o n:Nat}(hv:be S β cs vs)(hc:il S b o vs):
  VR S β (.ip (cs.drop n)) (.pointer (some ⟨b,o+n,none⟩)):=by
 simp only[VR];refine⟨b,o+n,vs.drop n,rfl,hv.drop _,fun j v hj=>?_⟩;rw[ad5]at hj
 have:=hc _ _ hj
 grind
theorem oY(hT:TOK P T){i:AV}{vi:Value}(h:ax T t x i=some r)(hx:VR S β x vx)(hi:VR S β i vi):xn P w S β (Instr.indexAt t vx vi) r:=by
 unfold ax at h;split at h
 ·rename_i ti k n ht;simp only[VR]at hi;subst hi;obtain⟨_,d,_,_,hd,_,_,_,_,hk,_⟩:=(hT.get ht).ex;split at h
  ·-- slice,by value
   rename_i e es hkk;cases d<;>simp only[kindOf,hkk,reduceCtorEq,TK.slice.injEq]at hk;subst hk;split at h
   ·rename_i ei hei;obtain⟨ii,_,_,hii,_,_,_,hsz,_⟩:=(hT.get hei).ex;split at h
    ·simp at h
    ·rename_i hn;split at h
     ·rename_i a ha;split at h
      ·rename_i hs;simp only[acz]at h;subst h;simp only[VR]at hx;obtain⟨ad,cap,rfl,hc,hnone,hsome⟩:=hx;have hlt:n.toNat<es.length:=by
        rcases ac9 n.toNat es.length with h|h
        ·exact h
        ·grind
       cases ad with
       |none=>grind
       | some q=>
        obtain⟨hq,sz,hel⟩:=hsome q rfl;obtain⟨v,hv,hvs,hvc⟩:=hel.get ha;obtain⟨h1,h2,_⟩:=hv.cells hs;have hqq:q=⟨q.block,q.off,none⟩:=by
         have:=hq WD
         cases q;simp_all
        have hsz':sz=ei.size:=by rw[<- hvs,h1]
        refine⟨.pointer (some ⟨q.block,q.off+n.toNat*ei.size,none⟩),?_,?_⟩
        ·rw[hqq];have hcond:0<=n/\n<(es.length:Int):=WD
         simp only[Instr.indexAt,asIntOf,Sem.run_bind,Sem.run_pure,Result.andThen_ok,run_underlying hd,ae3,acA,acI,hcond,afb,acK,run_sizeOf hii,hsz,addr_add]
        ·simp only[VR]
         grind
      ·simp at h
     ·simp at h
   ·simp at h
  ·-- slice in the heap
   rename_i e l off len sz ag hkk;cases d<;>simp only[kindOf,hkk,reduceCtorEq,TK.slice.injEq]at hk;subst hk;split at h
   ·rename_i ei hei;obtain⟨ii,_,_,hii,_,_,_,hsz,_⟩:=(hT.get hei).ex;split at h
    ·rename_i hc;simp only[acz]at h;subst h;obtain⟨b,cap,hb,hb0,rfl,_⟩:=hx.hs_pos WD;refine⟨.pointer (some ⟨b.1,off+n.toNat*ei.size,none⟩),?_,by simp only[VR];grind⟩;simp only[Instr.indexAt,asIntOf,Sem.run_bind,Sem.run_pure,Result.andThen_ok,run_underlying hd,ae3,acA,acI,hc,afb,acK,run_sizeOf hii,hsz,addr_add]
    ·simp at h
   ·simp at h
  ·rename_i m e cs hkk;cases d<;>simp only[kindOf,hkk,reduceCtorEq,TK.array.injEq]at hk;obtain⟨rfl,rfl⟩:=hk;split at h
   ·rename_i ei hei;obtain⟨ii,_,_,hii,_,_,_,hsz,_⟩:=(hT.get hei).ex;split at h
    ·rename_i hc;simp only[acz]at h;subst h;simp only[VR]at hx;obtain⟨b,off,vs,rfl,hv,hcc⟩:=hx;refine⟨.pointer (some ⟨b,off+n.toNat*ei.size,none⟩),?_,EJ hv hcc⟩;simp only[Instr.indexAt,asIntOf,Instr.sureAddr,Sem.run_bind,Sem.run_pure,Result.andThen_ok,run_underlying hd,hc,afb,acK,run_sizeOf hii,hsz,addr_add]
    ·simp at h
   ·simp at h
  ·rename_i m e l off hkk;cases d<;>simp only[kindOf,hkk,reduceCtorEq,TK.array.injEq]at hk;obtain⟨rfl,rfl⟩:=hk;split at h
   ·rename_i ei hei;obtain⟨ii,_,_,hii,_,_,_,hsz,_⟩:=(hT.get hei).ex;split at h
    ·rename_i hc;simp only[acz]at h;subst h;simp only[VR]at hx;obtain⟨b,hb,hb0,rfl⟩:=hx;refine⟨.pointer (some ⟨b.1,off+n.toNat*ei.size,none⟩),?_,by simp only[VR];grind⟩;simp only[Instr.indexAt,asIntOf,Instr.sureAddr,Sem.run_bind,Sem.run_pure,Result.andThen_ok,run_underlying hd,hc,afb,acK,run_sizeOf hii,hsz,addr_add]
    ·simp at h
   ·simp at h
  ·simp at h
 ·simp at h
theorem sA(hT:TOK P T)(ht:T t=some ti){o:Nat}(hv:be S β cs vs)(hc:∀j v,vs[j]? = some v->w.cell? ⟨b,o+j,none⟩=some v)(hr:(bif ti.agg then(if ti.size<=cs.length then some (.agg (cs.take ti.size))else none)else cs.head?)=some r):xn P w S β (loadVar t ⟨b,o,none⟩) r:=by
 obtain⟨ii,d,_,hii,hd,_,_,hsz,_,_,hag,_⟩:=(hT.get ht).ex;cases ha:ti.agg with
 | true=>
  rw[ha]at hr;simp only[acD]at hr;split at hr
  ·rename_i hle;simp only[acz]at hr;subst hr;have hl:(vs.take ti.size).length=ti.size:=by simp[hv.length];omega
   have hload:=run_loadCells_list (P:=P) w ⟨b,o,none⟩ (vs.take ti.size) (fun j v hj=>by
    grind [addr_add])
   rw[hl]at hload;refine⟨.agg (vs.take ti.size).toArray,?_,?_⟩
   ·simp_all[loadVar,ky,run_sizeOf]
   ·simp only[VR];exact⟨_,rfl,hv.take _⟩
  ·simp at hr
 |false=>
  rw[ha]at hr;simp only[acO]at hr;rw[List.head?_eq_getElem?]at hr;obtain⟨v,hv',hR⟩:=hv.get hr;refine⟨v,?_,hR⟩
  have:=hc 0 v hv'
  simp_all[loadVar,ky]
theorem C2(hT:TOK P T)(hw:Wf S w)(h:ay T t x=some r)(hx:VR S β x vx):xn P w S β (Instr.loadAt t vx) r:=by
 unfold ay at h;split at h
 ·rename_i ti cs ht;simp only[VR]at hx;obtain⟨b,off,vs,rfl,hv,hc⟩:=hx;obtain⟨v,h1,h2⟩:=sA hT ht hv (fun j v hj=>hw _ _ _ (hc j v hj)) h;exact⟨v,by simp[Instr.loadAt,Instr.sureAddr,h1],h2⟩
 ·simp at h
theorem Ff(hT:TOK P T){i:AV}{vi:Value}(h:mi T t x i=some r)(hx:VR S β x vx)(hi:VR S β i vi):xn P w S β (Instr.index t vx vi) r:=by
 unfold mi at h;split at h
 ·rename_i ti k n ht;simp only[VR]at hi;subst hi;obtain⟨_,d,_,_,hd,_,_,_,_,hk,_⟩:=(hT.get ht).ex;split at h
  ·rename_i s hkk;cases d<;>simp only[kindOf,hkk,reduceCtorEq]at hk;split at h
   ·simp at h
   ·rename_i hn;rw[adX]at h;obtain⟨b,hb,rfl⟩:=h;simp only[VR]at hx;obtain⟨y,rfl,hy⟩:=hx;have hyb:y[n.toNat]? = some b:=by
     rw[<- hy]at hb;have hlt:n.toNat<y.data.size:=by
      rcases ac9 n.toNat y.data.size with h|h
      ·exact h
      ·grind
     have:n.toNat<y.size:=hlt;rw[getElem?_pos y n.toNat this];rw[acH (by simpa using hlt)]at hb;simp at hb;rw[<- hb];rfl
    have h0:0<=n:=WD
    exact⟨_,by simp[Instr.index,asIntOf,run_underlying hd,h0,hyb];rfl,by simp only[VR]⟩
  ·rename_i m e cs hkk;cases d<;>simp only[kindOf,hkk,reduceCtorEq,TK.array.injEq]at hk;obtain⟨rfl,rfl⟩:=hk;split at h
   ·rename_i ei hei;obtain⟨ii,_,_,hii,_,_,_,hsz,_⟩:=(hT.get hei).ex;split at h
    ·rename_i hc;simp only[VR]at hx;obtain⟨vs,rfl,hv⟩:=hx;obtain⟨v,h1,h2⟩:=tY (w:=w) hT hei hv h;refine⟨v,?_,h2⟩;simp_all[Instr.index,asIntOf,run_underlying,run_sizeOf]
    ·simp at h
   ·simp at h
  ·simp at h
 ·simp at h
theorem MS(hT:TOK P T){f:Nat}(h:xS T t x f=some r)(hx:VR S β x vx):xn P w S β (Instr.field t vx f) r:=by
 unfold xS at h;split at h
 ·rename_i ti cs ht;simp only[VR]at hx;obtain⟨vs,rfl,hv⟩:=hx;obtain⟨_,d,_,_,hd,_,_,_,_,hk,_,hof,_⟩:=(hT.get ht).ex;split at h
  ·rename_i o ft nm hkk hf;rw[<- hof]at hf;obtain⟨fs,rfl⟩:∃fs,d= .struct fs:=by cases d<;>simp_all[sG]
   simp only[sG]at hf;rw[adK]at hf;cases hff:fs.toList[f]? with
   |none=>grind
   | some fd=>
    rw[hff]at hf;simp at hf;obtain⟨rfl,rfl,_⟩:=hf;have hff':fs[f]? = some fd:=by simpa using hff
    split at h
    ·rename_i fi hfi;obtain⟨v,h1,h2⟩:=tY (w:=w) hT hfi hv h;refine⟨v,?_,h2⟩;simp_all[Instr.field,run_underlying,asAgg]
    ·simp at h
  ·simp at h
 ·simp at h
theorem Vi(hT:TOK P T){t u:Nat}{x r:AV}{vx:Value}(ts:List TypeId)(xs:List Value)(h:ff T t x=some r)(hx:VR S β x vx):
  xn P w S β (Builtin.len_ (t:: ts).toArray u (vx:: xs).toArray) r:=by
 unfold ff at h;split at h
 ·simp at h
 ·rename_i ti ht;obtain⟨_,d,_,_,hd,_,_,_,_,hk,_⟩:=(hT.get ht).ex;split at h<;>(try simp only[acz,reduceCtorEq]at h)<;>(try subst h)
  ·rename_i e es hkk;simp only[VR]at hx;obtain⟨a,cap,rfl,_⟩:=hx;cases d<;>simp only[kindOf,hkk,reduceCtorEq]at hk;exact⟨_,by simp[Builtin.len_,run_underlying hd,goInt];rfl,by simp[VR]⟩
  ·rename_i hkk;obtain⟨q,cap,rfl,_⟩:=hx.hs_some;cases d<;>simp only[kindOf,hkk,reduceCtorEq]at hk;exact⟨_,by simp[Builtin.len_,run_underlying hd,goInt];rfl,by simp[VR]⟩
  ·rename_i hkk;simp only[VR]at hx;subst hx;cases d<;>simp only[kindOf,hkk,reduceCtorEq]at hk;exact⟨_,by simp[Builtin.len_,run_underlying hd,goInt];rfl,by simp[VR]⟩
  ·rename_i hkk;simp only[VR]at hx;obtain⟨_,rfl⟩:=hx;cases d<;>simp only[kindOf,hkk,reduceCtorEq]at hk;exact⟨_,by simp[Builtin.len_,run_underlying hd,goInt];rfl,by simp[VR]⟩
  ·rename_i s hkk;simp only[VR]at hx;obtain⟨y,rfl,hy⟩:=hx;cases d<;>simp only[kindOf,hkk,reduceCtorEq]at hk;refine⟨.int .i64 y.size,by simp[Builtin.len_,run_underlying hd,goInt],?_⟩;simp only[VR,<- hy,adE];rfl
  ·rename_i n e hkk;cases d<;>simp only[kindOf,hkk,reduceCtorEq,TK.array.injEq]at hk;obtain⟨rfl,rfl⟩:=hk;exact⟨_,by simp[Builtin.len_,run_underlying hd,goInt];rfl,by simp[VR]⟩
theorem HA{i:Nat}(h:jK x i=some r)(hx:VR S β x vx):xn P w S β (Instr.extract vx i) r:=by
 unfold jK at h;split at h
 ·simp only[VR]at hx;obtain⟨vs,rfl,hv⟩:=hx;obtain⟨v,h1,h2⟩:=hv.get h;exact⟨v,by simp[Instr.extract,h1],h2⟩
 ·simp at h
theorem H5(hT:TOK P T)(h:oA T t x=some r)(hx:VR S β x vx):xn P w S β (Instr.makeInterface t vx) r:=by
 unfold oA at h;split at h
 ·simp at h
 ·rename_i ti ht;obtain⟨_,d,_,_,hd,_,_,_,_,hk,_⟩:=(hT.get ht).ex;split at h
  ·simp at h
  ·rename_i hne;simp only[acz]at h;subst h;refine⟨.iface t vx,?_,by simp only[VR];grind⟩;cases d<;>simp_all[Instr.makeInterface,run_underlying hd,kindOf]
theorem QG{big:Bool}{y:AV}{vy:Value}(h:NM big x y=some r)(hx:VR S β x vx)(hy:VR S β y vy):
  xn P w S β (bif big then Builtin.max2 vx vy else Builtin.min2 vx vy) r:=by
 unfold NM at h;split at h
 ·simp only[acz]at h;subst h;simp only[VR]at hx hy;subst hx hy;cases big
  ·exact⟨_,by simp[Builtin.min2];rfl,by simp[VR]⟩
  ·exact⟨_,by simp[Builtin.max2];rfl,by simp[VR]⟩
 ·simp at h
theorem Dg{big:Bool}:(n:Nat)->(xs:List AV)->xs.length<=n->(r:AV)->(vs:List Value)->oz big xs=some r->be S β xs vs->
  ∃v rest,vs=v:: rest/\xn P w S β (rest.foldlM (bif big then Builtin.max2 else Builtin.min2) v) r
 |_,[],_,r,vs,h,_=>by simp[oz]at h
 |n,[x],_,r,vs,h,hv=>by
  simp only[oz,acz]at h;subst h;simp only[be]at hv;obtain⟨v,xs,rfl,hx,rfl⟩:=hv;exact⟨v,[],rfl,v,AI,hx⟩
 |0,x:: y:: xs,hl,r,vs,h,hv=>by simp at hl
 | n+1,x:: y:: xs,hl,r,vs,h,hv=>by
  unfold oz at h;split at h
  ·rename_i z hz;simp only[be]at hv;obtain⟨v,ys,rfl,hx,u,zs,rfl,hy,hzs⟩:=hv;obtain⟨c,hc,hcr⟩:=QG (P:=P) (w:=w) hz hx hy;obtain⟨v',rest',he,hp⟩:=Dg n (z:: xs) qr r (c:: zs) h (by simp only[be];grind);simp only[adN]at he;obtain⟨rfl,rfl⟩:=he;refine⟨v,u:: zs,rfl,?_⟩;obtain⟨o,ho,hor⟩:=hp;refine⟨o,?_,hor⟩
   grind [Sem.run_bind,Result.andThen_ok]
  ·simp at h
end
variable {cap:Nat}{lo:Option AV}{vlo:Option Value}
section
variable {P:Program} {T:TT} {w:World} {S:az} {β:List bQ}
theorem Gl{v:Value}{dflt most n y:Nat}(c:BoundsCode)(hy:most<=y)(h:dO (some x) dflt most=some n)(hx:VR S β x v):(Instr.sliceBound v y c).run P w= .ok n w/\n<=most:=by
 unfold dO at h;split at h
 ·grind
 ·rename_i k m hq;cases hq;simp only[VR]at hx;subst hx;split at h
  ·rename_i hcc;simp only[acz]at h;subst h;refine⟨?_,WD⟩;have:0<=m/\m<=(y:Int):=WD
   simp_all[Instr.sliceBound,asIntOf]
  ·simp at h
 ·simp at h
def nK(S:az)(β:List bQ):Option AV->Option Value->Prop
 |none,v=>v=none
 |some x,v=>∃y,v=some y/\VR S β x y
theorem i9{isSlice:Bool}{len:Nat}{hi:Option AV}{vhi:Option Value}{h:Nat}(hlo:nK S β lo vlo)(hhi:nK S β hi vhi)(hc:len<=cap)(hh:dO hi len len=some h)(hl:dO lo 0 h=some l):
  (Instr.sliceBounds isSlice len cap vlo vhi none).run P w= .ok (l,h,cap) w/\l<=h/\h<=len:=by
 cases hi with
 | none=>
  simp only[nK]at hhi;subst hhi;simp only[dO,acz]at hh;subst hh;cases lo with
  |none=>
   simp only[nK]at hlo;subst hlo;simp only[dO,acz]at hl;subst hl;simp_all[Instr.sliceBounds]
  |some y=>
   obtain⟨u,rfl,hu⟩:=hlo;have h1:=Gl (P:=P) (w:=w) .sliceB (acC _) hl hu;simp_all[Instr.sliceBounds]
 | some x=>
  obtain⟨v,rfl,hv⟩:=hhi;have h2:=fun c=>Gl (P:=P) (w:=w) c hc hh hv;cases lo with
  |none=>
   simp only[nK]at hlo;subst hlo;simp only[dO,acz]at hl;subst hl;exact⟨by simp[Instr.sliceBounds,h2],WD,(h2 .index).2⟩
  |some y=>
   obtain⟨u,rfl,hu⟩:=hlo;have h1:=Gl (P:=P) (w:=w) .sliceB (acC _) hl hu;exact⟨by simp[Instr.sliceBounds,h2,h1.1],h1.2,(h2 .index).2⟩
theorem G7{len:Nat}{xh xm:AV}{vh vm:Value}{h:Nat}(hlo:nK S β lo vlo)(hh:VR S β xh vh)(hm:VR S β xm vm)(hc:len<=cap)(h1:dO (some xh) len len=some h)(h2:dO (some xm) 0 len=some h)(hl:dO lo 0 h=some l):
  (Instr.sliceBounds true len cap vlo (some vh) (some vm)).run P w= .ok (l,h,h) w/\l<=h/\h<=len:=by
 have g2:=fun c=>Gl (P:=P) (w:=w) c hc h2 hm;have g1:(Instr.sliceBound vh h .slice3B).run P w= .ok h w:=by
  unfold dO at h1;split at h1
  ·grind
  ·rename_i k m hq;cases hq;simp only[VR]at hh;subst hh;split at h1
   ·rename_i hcc;simp only[acz]at h1;subst h1;have:0<=m/\m<=((m.toNat:Nat):Int):=WD
    simp_all[Instr.sliceBound,asIntOf]
   ·simp at h1
  ·simp at h1
 cases lo with
 |none=>
  simp only[nK]at hlo;subst hlo;simp only[dO,acz]at hl;subst hl;exact⟨by simp[Instr.sliceBounds,g2,g1],WD,(g2 .index).2⟩
 |some y=>
  obtain⟨u,rfl,hu⟩:=hlo;have h1:=Gl (P:=P) (w:=w) .slice3C (acC _) hl hu;exact⟨by simp[Instr.sliceBounds,g2,g1,h1.1],h1.2,(g2 .index).2⟩
theorem aca{a:Option Addr}{h esz:Nat}(hx:VR S β (.sl es) (.slice a es.length cap))(hlh:l<=h)(hh:h<=es.length)(hs:∀q,a=some q->h≠l->l≠0->∀sz,cr S β es q.block q.off sz->sz=esz)(m:Nat)(hm:h<=m)(hmc:m<=cap):
  VR S β (.sl ((es.take h).drop l)) (.slice (if m=l then a else a.map (·.add (l*esz))) (h-l) (m-l)):=by
 simp only[VR]at hx |-;obtain⟨a',cap',he,hc,hnone,hsome⟩:=hx;simp only[Value.slice.injEq]at he;obtain⟨rfl,_,rfl⟩:=he;have hlen:((es.take h).drop l).length=h-l:=by simp;omega
 refine⟨_,m-l,by rw[hlen],qr,?_,?_⟩
 ·intro hn;split at hn
  all_goals simp_all
 ·intro q hq;split at hq
  ·rename_i hml;have:h=l:=WD
   subst this;subst hq;obtain⟨h1,_⟩:=hsome q rfl;simp_all[cr]
  ·rw[adX]at hq;obtain⟨q0,rfl,rfl⟩:=hq;obtain⟨h1,sz,h2⟩:=hsome q0 rfl;have hq0:q0=⟨q0.block,q0.off,none⟩:=by
    have:=h1 WD
    cases q0;simp_all
   refine⟨fun _=>by rw[hq0,addr_add],?_⟩;by_cases hhl:h=l
   ·subst hhl;have:(es.take h).drop h=[]:=by apply acW;simp
    exact⟨1,by rw[this];simp[cr]⟩
   ·by_cases hl0:l=0
    ·subst hl0;refine⟨sz,?_⟩;rw[hq0,addr_add];simpa using h2.take h
    ·have:=hs q0 rfl hhl hl0 sz h2
     subst this;refine⟨sz,?_⟩;rw[hq0,addr_add];exact (h2.take h).drop l
theorem extract_toList(y:ByteArray)(l h:Nat):(y.extract l h).data.toList=(y.data.toList.take h).drop l:=by
 grind [ByteArray.data_extract,Array.toList_extract,List.drop_take]
theorem UX(hT:TOK P T){a:Option Addr}(h:eR T t (.sl es) lo none none=some r)(hx:VR S β (.sl es) (.slice a es.length cap))(hlo:nK S β lo vlo):
  ∃l ei ti e,T t=some ti/\ti.kind= .slice e/\T e=some ei/\l<=es.length/\(Instr.sliceAt t (.slice a es.length cap) vlo none none).run P w= .ok (.slice (if cap=l then a else a.map (·.add (l*ei.size))) (es.length-l) (cap-l)) w/\
   VR S β r (.slice (if cap=l then a else a.map (·.add (l*ei.size))) (es.length-l) (cap-l)):=by
 unfold eR at h;split at h
 ·simp at h
 ·rename_i ti ht;obtain⟨_,d,_,_,hd,_,_,_,_,hk,_⟩:=(hT.get ht).ex;split at h
  ·grind
  ·-- slices by value
   rename_i e es' hkk hq;simp only[AV.sl.injEq]at hq;subst hq;cases d<;>simp only[kindOf,hkk,reduceCtorEq,TK.slice.injEq]at hk;subst hk;split at h
   ·simp at h
   ·rename_i ei hei;obtain⟨ii,_,_,hii,_,_,_,hsz,_⟩:=(hT.get hei).ex;split at h
    ·simp at h
    ·rename_i hh hhe;split at h
     ·simp at h
     ·rename_i l hle;cases hck:(decide (l=0)||dK ei.size es)with
      |false=>grind
      | true=>
       rw[hck]at h;simp only[acD,acz]at h;subst h;have hx0:=hx;simp only[VR]at hx;obtain⟨a',cap',he,hc,hnone,hsome⟩:=hx;simp only[Value.slice.injEq]at he;obtain⟨rfl,_,rfl⟩:=he;have hhe':hh=es.length:=by simpa [dO]using hhe.symm
       subst hhe';obtain⟨hb,h1,h2⟩:=i9 (P:=P) (w:=w) (isSlice:=true) hlo (hi:=none) (vhi:=none) rfl hc hhe hle;refine⟨l,ei,ti,_,ht,hkk,hei,h1,?_,?_⟩
       ·simp_all[Instr.sliceAt,run_underlying,Instr.slice,run_sizeOf]
       ·rw[adm]at hck;rcases hck with h0|hok
        ·have h0:l=0:=by simpa using h0
         exact aca hx0 h1 h2 (fun q _ _ hl0=>absurd h0 hl0) cap WD (acC _)
        ·refine aca hx0 h1 h2 (fun q hq hne _ sz hel=>?_) cap WD (acC _);have hlt:l<es.length:=WD
         obtain⟨v,hv,hvs,_⟩:=hel.get (acH hlt);have hsa:cW es[l]=some ei.size:=by
          unfold dK at hok;rw[acQ]at hok
          have:=hok _ (List.getElem_mem hlt)
          simp[cn]at this;exact this.1
         have:=(hv.cells hsa).1
         omega
  all_goals grind
theorem Ou(hT:TOK P T){hi mx:Option AV}{vhi vmx:Option Value}(h:eR T t x lo hi mx=some r)(hx:VR S β x vx)(hlo:nK S β lo vlo)(hhi:nK S β hi vhi)(hmx:nK S β mx vmx):
  ∃v,(Instr.sliceAt t vx vlo vhi vmx).run P w= .ok v w/\VR S β r v/\(mx.isSome=true->(∃a n,v= .slice a n n)/\∃es,r= .sl es):=by
 unfold eR at h;split at h
 ·simp at h
 ·rename_i ti ht;obtain⟨_,d,_,_,hd,_,_,_,_,hk,_⟩:=(hT.get ht).ex;split at h
  ·-- strings
   rename_i s hkk;cases d<;>simp only[kindOf,hkk,reduceCtorEq]at hk;split at h
   ·simp at h
   ·simp only[nK]at hmx;subst hmx;split at h
    ·simp at h
    ·rename_i hh hhe;split at h
     ·simp at h
     ·rename_i l hle;simp only[acz]at h;subst h;simp only[VR]at hx;obtain⟨y,rfl,hy⟩:=hx;have hsz:y.size=s.length:=by rw[<- hy,adE];rfl
      obtain⟨hb,h1,h2⟩:=i9 (P:=P) (w:=w) (isSlice:=false) hlo hhi (acC s.length) hhe hle;refine⟨.string (y.extract l hh),?_,?_,AI⟩
      ·simp_all[Instr.sliceAt,run_underlying,Instr.slice]
      ·simp only[VR];exact⟨_,rfl,by rw[extract_toList,hy]⟩
  ·-- slices by value
   rename_i e es hkk;cases d<;>simp only[kindOf,hkk,reduceCtorEq,TK.slice.injEq]at hk;subst hk;split at h
   ·simp at h
   ·rename_i ei hei;obtain⟨ii,_,_,hii,_,_,_,hsz,_⟩:=(hT.get hei).ex;split at h
    ·simp at h
    ·rename_i hh hhe;split at h
     ·simp at h
     ·rename_i l hle;cases hck:(decide (l=0)||dK ei.size es)with
      |false=>grind
      | true=>
       rw[hck]at h;simp only[acD]at h;have hx0:=hx;simp only[VR]at hx;obtain⟨a,cap,rfl,hc,hnone,hsome⟩:=hx;have hstep:∀hh l m:Nat,l<=hh->hh<=es.length->hh<=m->m<=cap->(decide (l=0)||dK ei.size es)=true->
         VR S β (.sl ((es.take hh).drop l)) (.slice (if m=l then a else a.map (·.add (l*ii.size))) (hh-l) (m-l)):=by
        intro hh l m h1 h2 h3 h4 hck;rw[adm]at hck;rcases hck with h0|hok
        ·have h0:l=0:=by simpa using h0
         exact aca hx0 h1 h2 (fun q _ _ hl0=>absurd h0 hl0) m h3 h4
        ·refine aca hx0 h1 h2 (fun q hq hne _ sz hel=>?_) m h3 h4;have hlt:l<es.length:=WD
         obtain⟨v,hv,hvs,_⟩:=hel.get (acH hlt);have hsa:cW es[l]=some ei.size:=by
          unfold dK at hok;rw[acQ]at hok
          have:=hok _ (List.getElem_mem hlt)
          simp[cn]at this;exact this.1
         have:=(hv.cells hsa).1
         omega
       cases mx with
       |none=>
        simp only[acz]at h;subst h;simp only[nK]at hmx;subst hmx;obtain⟨hb,h1,h2⟩:=i9 (P:=P) (w:=w) (isSlice:=true) hlo hhi hc hhe hle;refine⟨_,?_,hstep hh l cap h1 h2 WD (acC _) hck,AI⟩;simp_all[Instr.sliceAt,run_underlying,Instr.slice,run_sizeOf]
       | some xm=>
        obtain⟨vm,rfl,hvm⟩:=hmx;cases hi with
        |none=>simp at h
        | some xh=>
         obtain⟨vh,rfl,hvh⟩:=hhi;simp only at h;split at h
         ·rename_i m' hm' _;split at h
          ·rename_i hmh;subst hmh;simp only[acz]at h;subst h;obtain⟨hb,h1,h2⟩:=G7 (P:=P) (w:=w) hlo hvh hvm hc hhe ‹_› hle;refine⟨_,?_,hstep m' l m' h1 h2 (acC _) WD hck,fun _=>⟨⟨_,_,rfl⟩,_,rfl⟩⟩;simp_all[Instr.sliceAt,run_underlying,Instr.slice,run_sizeOf]
          ·simp at h
         ·simp at h
  ·-- a nil slice
   rename_i e hkk;cases d<;>simp only[kindOf,hkk,reduceCtorEq,TK.slice.injEq]at hk;subst hk;split at h
   ·simp at h
   ·rename_i ei hei;obtain⟨ii,_,_,hii,_,_,_,hsz,_⟩:=(hT.get hei).ex;split at h
    ·simp at h
    ·simp only[nK]at hmx;subst hmx;split at h
     ·simp at h
     ·rename_i hh hhe;split at h
      ·simp at h
      ·rename_i l hle;simp only[acz]at h;subst h;simp only[VR]at hx;subst hx;obtain⟨hbd,h1,h2⟩:=i9 (P:=P) (w:=w) (isSlice:=true) (len:=0) (cap:=0) hlo hhi (acC 0) hhe hle;obtain rfl:hh=0:=WD
       obtain rfl:l=0:=WD
       simp_all[VR,Instr.sliceAt,run_underlying,Instr.slice,run_sizeOf]
  ·-- an empty slice without room
   rename_i e hkk;cases d<;>simp only[kindOf,hkk,reduceCtorEq,TK.slice.injEq]at hk;subst hk;split at h
   ·simp at h
   ·rename_i ei hei;obtain⟨ii,_,_,hii,_,_,_,hsz,_⟩:=(hT.get hei).ex;split at h
    ·simp at h
    ·simp only[nK]at hmx;subst hmx;split at h
     ·simp at h
     ·rename_i hh hhe;split at h
      ·simp at h
      ·rename_i l hle;simp only[acz]at h;subst h;simp only[VR]at hx;obtain⟨a0,rfl⟩:=hx;obtain⟨hbd,h1,h2⟩:=i9 (P:=P) (w:=w) (isSlice:=true) (len:=0) (cap:=0) hlo hhi (acC 0) hhe hle;obtain rfl:hh=0:=WD
       obtain rfl:l=0:=WD
       refine⟨.slice a0 0 0,?_,by simp only[VR];grind,AI⟩;simp_all[Instr.sliceAt,run_underlying,Instr.slice,run_sizeOf]
  ·-- slices in the heap
   rename_i e l0 off len sz ag hkk;cases d<;>simp only[kindOf,hkk,reduceCtorEq,TK.slice.injEq]at hk;subst hk;split at h
   ·simp at h
   ·rename_i ei hei;obtain⟨ii,_,_,hii,_,_,_,hsz,_⟩:=(hT.get hei).ex;split at h
    ·simp at h
    ·simp only[nK]at hmx;subst hmx;split at h
     ·simp at h
     ·rename_i hh hhe;split at h
      ·simp at h
      ·rename_i l hle;split at h
       ·rename_i hcond;simp only[VR]at hx;rcases hx with⟨b,cap,hb,hb0,rfl,hcap,hcs⟩|⟨h00,q0,rfl⟩
        rotate_left
        ·subst h00;obtain⟨hbd,h1,h2⟩:=i9 (P:=P) (w:=w) (isSlice:=true) (len:=0) (cap:=0) hlo hhi (acC 0) hhe hle;split at h
         ·omega
         ·simp only[acz]at h;subst h;obtain rfl:hh=0:=WD
          obtain rfl:l=0:=WD
          refine⟨.slice (some q0) 0 0,?_,?_,AI⟩
          ·simp_all[Instr.sliceAt,run_underlying,Instr.slice,run_sizeOf]
          ·simp only[VR,cr];exact⟨_,_,rfl,acU _,(fun h=>by cases h),fun q hq=>⟨fun h=>absurd h WD,0,trivial⟩⟩
        obtain⟨hbd,h1,h2⟩:=i9 (P:=P) (w:=w) (isSlice:=true) hlo hhi hcap hhe hle;split at h
        ·rename_i hlt;simp only[acz]at h;subst h;have hml:cap≠l:=WD
         refine⟨.slice (some ⟨b.1,off+l*sz,none⟩) (hh-l) (cap-l),?_,?_,AI⟩
         ·simp_all[Instr.sliceAt,run_underlying,Instr.slice,run_sizeOf,addr_add]
         ·simp only[VR];refine .inl ⟨b,cap-l,hb,hb0,rfl,WD,?_⟩;rw[Nat.sub_mul];have:l*sz<=cap*sz:=ac4 _ WD;omega
        ·rename_i hlt;simp only[acz]at h;subst h;obtain rfl:l=hh:=WD
         by_cases hml:cap=l
         ·refine⟨.slice (some ⟨b.1,off,none⟩) (l-l) (cap-l),?_,?_,AI⟩
          ·simp_all[Instr.sliceAt,run_underlying,Instr.slice,run_sizeOf]
          ·simp only[VR,cr];rw[aeF];exact⟨_,_,rfl,acU _,(fun h=>by cases h),fun q hq=>AN⟩
         ·refine⟨.slice (some ⟨b.1,off+l*sz,none⟩) (l-l) (cap-l),?_,?_,AI⟩
          ·simp_all[Instr.sliceAt,run_underlying,Instr.slice,run_sizeOf,addr_add]
          ·simp only[VR,cr];rw[aeF];exact⟨_,_,rfl,acU _,(fun h=>by cases h),fun q hq=>by cases hq;simp_all⟩
       ·simp at h
  ·-- an array that is pointed to
   rename_i m e cs hkk;cases d<;>simp only[kindOf,hkk,reduceCtorEq,TK.array.injEq]at hk;obtain⟨rfl,rfl⟩:=hk;split at h
   ·rename_i ei hei;obtain⟨ii,_,_,hii,_,_,_,hsz,_⟩:=(hT.get hei).ex;simp only[nK]at hlo hhi hmx;subst hlo hhi hmx;split at h
    ·rename_i hc;obtain⟨h1,h2,h3,h4⟩:=hc;simp only[acz]at h;subst h;simp only[VR]at hx;obtain⟨b,off,vs,rfl,hvs,hcs⟩:=hx;refine⟨.slice (some ⟨b,off,none⟩) cs.length cs.length,?_,?_,AI⟩
     ·simp_all[Instr.sliceAt,run_underlying,Instr.sureAddr,Instr.sliceBounds,run_sizeOf,addr_add]
     ·simp only[VR];refine⟨_,_,rfl,acC _,(fun h=>by cases h),fun q hq=>?_⟩;cases hq;refine⟨fun _=>rfl,1,.of_get fun i e he=>?_⟩;obtain⟨v,v1,v2⟩:=hvs.get he;have hs:HM e=true:=by
       rw[acQ]at h4;exact h4 e (adl he)
      cases e<;>simp only[HM,acA]at hs;simp only[VR]at v2;obtain⟨x,rfl,hx⟩:=v2;refine⟨_,⟨x,rfl,hx⟩,rfl,fun j u hu=>?_⟩;have hj:j=0:=by
       cases j with
       |zero=>rfl
       |succ j=>simp[Value.cells]at hu
      subst hj;have hu':u= .string x:=by simpa [Value.cells]using hu.symm
      subst hu';rw[Nat.mul_one,aeG];exact hcs i _ v1
    ·simp at h
   ·simp at h
  ·simp at h
theorem Ly(hT:TOK P T){hi mx:Option AV}{vhi vmx:Option Value}(h:Iw T t x lo hi mx=some r)(hx:VR S β x vx)(hlo:nK S β lo vlo)(hhi:nK S β hi vhi)(hmx:nK S β mx vmx):
  ∃v,(Instr.sliceAt t vx vlo vhi vmx).run P w= .ok v w/\VR S β r v/\(mx.isSome=true->(∃a n,v= .slice a n n)/\∃es,r= .sl es):=by cases h
end
section
variable {P:Program} {T:TT} {w:World} {S:az} {β:List bQ}
theorem DD(cs xs:List AV)(off k:Nat)(h:off+xs.length<=cs.length):
  (setCells cs off xs)[k]? = if off<=k/\k<off+xs.length then xs[k-off]? else cs[k]?:=by
 unfold setCells;have htl:(cs.take off).length=off:=by simp;omega
 grind
theorem iY(cs xs:List AV)(off:Nat)(h:off+xs.length<=cs.length):(setCells cs off xs).length=cs.length:=by
 simp[setCells];omega
theorem foldl_set(vs:List Value):∀(k off:Nat)(cells:Array Value),
  ((vs.zipIdx k).foldl (fun cs x=>cs.setIfInBounds (off+x.2) x.1) cells).size=cells.size/\
  (off+k+vs.length<=cells.size->∀i,((vs.zipIdx k).foldl (fun cs x=>cs.setIfInBounds (off+x.2) x.1) cells)[i]? = if off+k<=i/\i<off+k+vs.length then vs[i-(off+k)]? else cells[i]?):=by
 induction vs with
 |nil=>intro k off cells;simp;omega
 |cons v vs ih=>
  intro k off cells;simp only[List.zipIdx_cons,aeX,acR];obtain⟨h1,h2⟩:=ih (k+1) off (cells.setIfInBounds (off+k) v)
  grind
theorem be.splice{xs:List AV}{vs:Array Value}{ws:List Value}(h:be S β cs vs.toList)(g:be S β xs ws)(hle:off+xs.length<=cs.length){us:Array Value}(hs:us.size=vs.size)(hu:∀i,us[i]? = if off<=i/\i<off+ws.length then ws[i-off]? else vs[i]?):be S β (setCells cs off xs) us.toList:=by
 have hl:=h.length;have hl2:=g.length;refine .of_get (by grind [iY]) fun i c v hc hv=>?_;rw[DD _ _ _ _ hle]at hc;rw[ads,hu,hl2]at hv;split at hc
 ·rename_i hcc;rw[acL hcc]at hv;obtain⟨v',h1,h2⟩:=g.get hc
  grind
 ·rename_i hcc;rw[acE hcc]at hv;obtain⟨v',h1,h2⟩:=h.get hc
  grind
def mw(S:az)(β:List bQ):List (Nat×AV)->List (Nat×Value)->Prop
 |[],ps=>ps=[]
 |(i,a):: r,ps=>∃v ps',ps=(i,v):: ps'/\VR S β a v/\mw S β r ps'
theorem Je{pA:Nat->Option (Nat×Nat)}{pV:Nat->Option (Nat×Nat)}(hp:∀i,pA i=pV i):∀(ps:List (Nat×AV))(qs:List (Nat×Value))(cs:List AV)(vs:Array Value)(r:List AV),
  vP pA cs ps=some r->mw S β ps qs->be S β cs vs.toList->∃us:Array Value,Instr.fill pV vs qs=some us/\be S β r us.toList:=by
 intro ps
 induction ps with
 |nil=>
  intro qs cs vs r h hq hv;simp only[mw]at hq;subst hq;simp only[vP,acz]at h;subst h;exact⟨vs,rfl,hv⟩
 | cons p ps ih=>
  obtain⟨i,a⟩:=p;intro qs cs vs r h hq hv;simp only[mw]at hq;obtain⟨v,qs',rfl,hav,hq'⟩:=hq;simp only[vP]at h;unfold Instr.fill;rw[<- hp i];split at h
  ·simp at h
  ·rename_i off size hpi;rw[hpi];simp only;split at h
   ·rename_i hc;obtain⟨h1,h2,h3⟩:=hav.cells hc.1;have hvs:vs.size=cs.length:=by have:=hv.length;simpa using this
    rw[acE qr];obtain⟨g1,g2⟩:=foldl_set v.cells.toList 0 off vs;have hfold:v.cells.zipIdx.foldl (fun cs x=>cs.setIfInBounds (off+x.2) x.1) vs=(v.cells.toList.zipIdx 0).foldl (fun cs x=>cs.setIfInBounds (off+x.2) x.1) vs:=by
     rw[<- Array.foldl_toList];simp
    have hle:off+(ab a).length<=cs.length:=by rw[h3];exact hc.2
    exact ih qs' _ _ r h hq' (hv.splice h2 hle qr (fun i=>qr))
   ·simp at h
theorem zZ(hT:TOK P T):∀(fs:List Field)(r:List (Nat×Nat)),mI T (fs.map fun f=>(f.offset,f.type,decide (f.name≠ "_")))=some r->
  (fs.mapM fun f=>(do pure (f.offset,<- sizeOf f.type):Sem (Nat×Nat))).run P w= .ok r w:=by
 intro fs
 induction fs with
 |nil=>simp_all[mI]
 | cons f fs ih=>
  intro r h;simp only[ac3,mI]at h;split at h
  ·rename_i ti r' ht hr;simp only[acz]at h;subst h;obtain⟨ii,_,_,hii,_,_,_,hsz,_⟩:=(hT.get ht).ex;simp_all[run_sizeOf]
  ·simp at h
theorem zQ(hT:TOK P T)(ht:T t=some ti)(told:Bool){i:TypeInfo}{z:Value}(hi:P.info? t=some i)(hz:i.zero=some z):be S β (dG told ti) z.cells.toList:=by
 obtain⟨i',d,z',hi',hd,hz',_,_,_,_,_,_,hzz,_⟩:=(hT.get ht).ex;rw[hi]at hi';cases hi';rw[hz]at hz';cases hz';unfold dG;rw[<- hzz];cases told with
 |false=>exact Cp S β _
 | true=>
  simp only[acD,adW];generalize z.cells.toList=l
  induction l with
  |nil=>simp[be]
  | cons v l ih=>
   simp only[ac3,be];refine⟨v,l,rfl,?_,ih⟩;simp only[Function.comp];split
   ·rename_i hv;unfold I3 at hv
    grind [VR]
   ·exact Co S β v
theorem Ew(hT:TOK P T){told:Bool}{parts:List (Nat×AV)}{qs:Array (Nat×Value)}(h:bW T told t parts=some r)(hq:mw S β parts qs.toList):
  xn P w S β (Instr.build t qs) r:=by
 unfold bW at h;split at h
 ·simp at h
 ·rename_i ti ht;obtain⟨i,d,z,hi,hd,hz,_,_,_,hk,_,hof,_⟩:=(hT.get ht).ex;have hzero:=zQ (S:=S) (β:=β) hT ht told hi hz;have hzr:(zeroValue t).run P w= .ok z w:=by simp[zeroValue,typeInfo,hi,hz]
  split at h
  ·rename_i hkk;split at h
   ·simp at h
   ·rename_i pl hpl;obtain⟨fs,rfl⟩:∃fs,d= .struct fs:=by cases d<;>simp_all[kindOf]
    rw[adX]at h;obtain⟨cs,hcs,rfl⟩:=h;rw[<- hof]at hpl;have hm:=zZ (w:=w) hT fs.toList pl hpl;have hma:(fs.mapM fun f=>(do pure (f.offset,<- sizeOf f.type):Sem (Nat×Nat))).run P w= .ok pl.toArray w:=by
     rw[afa];simp only[Sem.run_map,hm,Result.andThen_ok]
    obtain⟨us,hus,hur⟩:=Je (pV:=(pl.toArray[·]?)) (fun i=>AI) parts qs.toList _ z.cells cs hcs hq hzero;refine⟨.agg us,?_,by grind [VR]⟩;simp_all[Instr.build,run_underlying]
  ·rename_i n e hkk;split at h
   ·simp at h
   ·rename_i ei hei;obtain⟨ii,_,_,hii,_,_,_,hsz,_⟩:=(hT.get hei).ex;cases d<;>simp only[kindOf,hkk,reduceCtorEq,TK.array.injEq]at hk;obtain⟨rfl,rfl⟩:=hk;rw[adX]at h;obtain⟨cs,hcs,rfl⟩:=h;obtain⟨us,hus,hur⟩:=Je (pV:=fun i=>some (i*ei.size,ei.size)) (fun i=>rfl) parts qs.toList _ z.cells cs hcs hq hzero;refine⟨.agg us,?_,by grind [VR]⟩;simp_all[Instr.build,run_underlying,run_sizeOf]
  ·simp at h
end
section
variable {P:Program} {T:TT} {w:World} {S:az} {β:List bQ}
def ll(S:az)(β:List bQ)(es:List AV)(c:Array Value)(sz:Nat):Prop:=
 ∀(i:Nat)(e:AV),es[i]? = some e->∃v,VR S β e v/\v.cells.size=sz/\∀(j:Nat)(x:Value),v.cells[j]? = some x->c[i*sz+j]? = some x
theorem ll.at{c:Array Value}{sz:Nat}(h:ll S β es c sz)(hS:S.le S')(hc:∀(o:Nat)(x:Value),c[o]? = some x->S' b o=some x):cr S' β es b 0 sz:=by
 refine .of_get fun i e he=>?_;obtain⟨v,h1,h2,h3⟩:=h i e he;refine⟨v,h1.mono hS (ig.refl β),h2,fun j x hx=>?_⟩
 grind
theorem Ay(hT:TOK P T)(ht:T t=some ti){i:TypeInfo}{z:Value}(hi:P.info? t=some i)(hz:i.zero=some z):VR S β (jm ti) z/\z.cells.size=ti.size:=by
 obtain⟨i',d,z',hi',hd,hz',hzs,hsz,_,_,_,_,hzz,_,hag,hna⟩:=(hT.get ht).ex;rw[hi]at hi';cases hi';rw[hz]at hz';cases hz';refine⟨?_,WD⟩;unfold jm;cases ha:ti.agg with
 |true=>
  obtain⟨cs,rfl⟩:=hag ha;simp only[acD,VR];refine⟨cs.toList,AI,?_⟩;rw[<- hzz];exact Cp S β _
 |false=>
  have hc:z.cells= #[z]:=by cases z<;>first|rfl|grind
  rw[hc]at hzz;simp only[acO,<- hzz];exact Co S β z
theorem Ga(hT:TOK P T)(ht:T t=some ti){i:TypeInfo}{z:Value}(hi:P.info? t=some i)(hz:i.zero=some z)(n:Nat)(zero:Array Value)(h0:n*ti.size≠0->zero=z.cells):
  ll S β (List.replicate n (jm ti)) ((Array.range (n*ti.size)).map (zero[· % zero.size]!)) ti.size:=by
 obtain⟨h1,h2⟩:=Ay (S:=S) (β:=β) hT ht hi hz;intro k e he;rw[List.getElem?_replicate]at he;split at he
 ·rename_i hk;simp only[acz]at he;subst he;refine⟨z,h1,h2,fun j x hx=>?_⟩;have hj:j<ti.size:=by
   rcases ac9 j z.cells.size with h|h
   ·omega
   ·grind
  have hle:k*ti.size+j<n*ti.size:=by
   have:(k+1)*ti.size<=n*ti.size:=ac4 _ hk;rw[Nat.add_mul]at this;omega
  have hzero:=h0 WD;simp_all[Nat.mod_eq_of_lt]
 ·simp at he
theorem HD{sz:Nat}:∀(ps:List (Nat×AV))(qs:List (Nat×Value))(es r:List AV)(c:Array Value),lV sz es ps=some r->mw S β ps qs->ll S β es c sz->c.size=es.length*sz->
  ∃us:Array Value,Instr.fill (fun i=>some (i*sz,sz)) c qs=some us/\ll S β r us sz/\us.size=c.size/\r.length=es.length:=by
 intro ps
 induction ps with
 |nil=>
  intro qs es r c h hq hr hc;simp only[mw]at hq;subst hq;simp only[lV,acz]at h;subst h;exact⟨c,rfl,hr,rfl,rfl⟩
 | cons p ps ih=>
  obtain⟨i,a⟩:=p;intro qs es r c h hq hr hc;simp only[mw]at hq;obtain⟨v,qs',rfl,hav,hq'⟩:=hq;simp only[lV]at h;split at h
  ·rename_i hcond;obtain⟨h1,h2,h3⟩:=hav.cells hcond.1;have hle:(i+1)*sz<=es.length*sz:=ac4 _ hcond.2;rw[Nat.add_mul]at hle;unfold Instr.fill;simp only;rw[acE qr];have hfold:v.cells.zipIdx.foldl (fun cs x=>cs.setIfInBounds (i*sz+x.2) x.1) c=(v.cells.toList.zipIdx 0).foldl (fun cs x=>cs.setIfInBounds (i*sz+x.2) x.1) c:=by
    rw[<- Array.foldl_toList];simp
   obtain⟨g1,g2⟩:=foldl_set v.cells.toList 0 (i*sz) c;rw[<- hfold]at g1 g2;have g2:=g2 qr;generalize v.cells.zipIdx.foldl (fun cs x=>cs.setIfInBounds (i*sz+x.2) x.1) c=c' at g1 g2 |-;obtain⟨us,h4,h5,h6,h7⟩:=ih qs' (es.set i a) r c' h hq' (by
    intro k e he;rw[adR]at he;split at he
    ·grind
    ·rename_i hik;obtain⟨u,hu1,hu2,hu3⟩:=hr k e he;refine⟨u,hu1,hu2,fun j x hx=>?_⟩;have hj:j<sz:=by
      rcases ac9 j u.cells.size with h|h
      ·omega
      ·grind
     rw[g2,acE]
     ·grind
     ·simp only[adE,h1,aeG];rintro⟨ha,hb⟩;rcases ac9 k i with hlt|hge
      ·have:(k+1)*sz<=i*sz:=ac4 _ hlt
       grind
      ·have:(i+1)*sz<=k*sz:=ac4 _ WD
       grind) qr
   grind
  ·simp at h
theorem zW(hT:TOK P T){n:Nat}{parts:List (Nat×AV)}{qs:Array (Nat×Value)}(h:aI T t n parts=some r)(hq:mw S β parts qs.toList):
  ∃(es:List AV)(c:Array Value)(e sz:Nat),r= .sl es/\es.length=n/\ll S β es c sz/\
   (Instr.buildSlice t n qs).run P w= .ok (.slice (some ⟨w.heap.size,0,none⟩) n n) (w.alloc (.cells c e)):=by
 unfold aI at h;split at h
 ·simp at h
 ·rename_i ti ht;obtain⟨i,d,z,hi,hd,hz,_,_,_,hk,_,hof,_⟩:=(hT.get ht).ex;split at h
  ·rename_i e hkk;have hd':d= .slice e:=by cases d<;>simp_all[kindOf]
   subst hd';split at h
   ·simp at h
   ·rename_i ei hei;obtain⟨ii,_,zz,hii,_,hzz,hzs,hsz,_⟩:=(hT.get hei).ex;split at h
    ·rename_i hc;rw[adX]at h;obtain⟨es,hes,rfl⟩:=h;have hzr:(zeroValue e).run P w= .ok zz w:=by simp[zeroValue,typeInfo,hii,hzz]
     have hrow:=Ga (S:=S) (β:=β) hT hei hii hzz n (if n*ii.size=0 then #[]else zz.cells) (fun hne=>qr);obtain⟨us,h1,h2,h3,h4⟩:=HD parts qs.toList _ es _ hes hq hrow AI;refine⟨es,us,e,ei.size,rfl,by simpa using h4,h2,?_⟩;have hbig:¬(n*ii.size>2 ^ 24):=by rw[hsz];have:=hc.1;omega
     simp only[Instr.buildSlice,Sem.run_bind,run_underlying hd,Result.andThen_ok,run_sizeOf hii,hbig,acI];rw[hsz]at h1 |-;by_cases hz0:n*ei.size=0
     all_goals simp_all[newRow]
    ·simp at h
  ·simp at h
theorem Db(hT:TOK P T){an ac:AV}{vn vc:Value}(h:sC T t an ac=some r)(hn:VR S β an vn)(hc:VR S β ac vc):
  ∃(es:List AV)(c:Array Value)(e sz cap:Nat),r= .sl es/\eK T t=some sz/\es.length<=cap/\c.size=cap*sz/\ll S β es c sz/\
   (Instr.makeSlice t vn vc).run P w= .ok (.slice (some ⟨w.heap.size,0,none⟩) es.length cap) (w.alloc (.cells c e)):=by cases h
theorem pf{sz:Nat}{a:AV}{v:Value}(h:cn sz a=true)(hv:VR S β a v):v.cells.size=sz/\be S β (ab a) v.cells.toList/\∀x∈v.cells.toList,x.oneCell'=true:=by
 unfold cn at h;rw[acB]at h;obtain⟨h1,h2⟩:=h;have h1:cW a=some sz:=by simpa using h1
 obtain⟨g1,g2,_⟩:=hv.cells h1;refine⟨g1,g2,fun x hx=>?_⟩;rw[acQ]at h2;obtain⟨i,hi⟩:=List.getElem?_of_mem hx;have hlt:i<(ab a).length:=by
  rw[<- g2.length];rcases ac9 i v.cells.toList.length with h|h
  ·exact h
  ·grind
 obtain⟨y,hy,hyr⟩:=g2.get (acH hlt);rw[hi]at hy;cases hy
 have:=h2 _ (List.getElem_mem hlt)
 cases hc:(ab a)[i]<;>rw[hc]at this hyr<;>simp[aO]at this<;>simp only[VR]at hyr
 case bool=>subst hyr;rfl
 case int=>subst hyr;rfl
 case nilp=>subst hyr;rfl
 case nilf=>subst hyr;rfl
 case nili=>subst hyr;rfl
 case hn=>subst hyr;rfl
 case he=>obtain⟨_,rfl⟩:=hyr;rfl
 case str=>obtain⟨_,rfl,_⟩:=hyr;rfl
 case sl=>obtain⟨_,_,rfl,_⟩:=hyr;rfl
 case ip=>obtain⟨_,_,_,rfl,_⟩:=hyr;rfl
 case hp=>obtain⟨_,_,_,rfl⟩:=hyr;rfl
 case hs=>rcases hyr with⟨_,_,_,_,rfl,_⟩|⟨_,_,rfl⟩<;>rfl
 case fn=>obtain⟨_,_,rfl,_⟩:=hyr;rfl
 case iface=>obtain⟨_,rfl,_⟩:=hyr;rfl
 case mp=>obtain⟨_,_,_,rfl⟩:=hyr;rfl
 case nilm=>subst hyr;rfl
def fy(S:az)(β:List bQ)(es:List AV)(cs:List Value)(sz:Nat):Prop:=cs.length=es.length*sz/\ll S β es cs.toArray sz/\∀x∈cs,x.oneCell'=true
theorem fy.nil(sz:Nat):fy S β [] [] sz:=⟨AI,fun i e h=>by simp at h,fun x h=>by simp at h⟩
theorem vT{sz:Nat}:∀ {es:List AV} {b off sz':Nat},cr S β es b off sz'->dK sz es=true->∃cs:List Value,fy S β es cs sz/\il S b off cs
 |[],b,off,_,_,_=>⟨[],.nil sz,fun j v h=>by simp at h⟩
 | e:: es,b,off,sz',h,hok=>by
  simp only[cr]at h;simp only[dK,adz,acB]at hok;obtain⟨⟨v,hv,hs,hc⟩,hes⟩:=h;obtain⟨h1,h2,h3⟩:=pf hok.1 hv;have:sz'=sz:=WD
  subst this;obtain⟨cs,⟨g1,g2,g3⟩,g4⟩:=vT hes hok.2;refine⟨v.cells.toList++cs,⟨qr,?_,?_⟩,?_⟩
  ·intro i x hx;cases i with
   |zero=>
    grind
   |succ i=>
    simp only[adc]at hx;obtain⟨u,u1,u2,u3⟩:=g2 i x hx
    grind
  ·grind
  ·intro j y hy;rcases ac9 j v.cells.toList.length with hlt|hge
   ·rw[ac6 hlt]at hy;exact hc j y hy
   ·rw[adh hge]at hy
    have:=g4 _ _ hy
    grind
theorem fy.append{fs:List AV}{cs ds:List Value}{sz:Nat}(h:fy S β es cs sz)(g:fy S β fs ds sz):fy S β (es++fs) (cs++ds) sz:=by
 obtain⟨h1,h2,h3⟩:=h;obtain⟨g1,g2,g3⟩:=g;refine⟨qr,fun i x hx=>?_,fun x hx=>?_⟩
 ·rcases ac9 i es.length with hlt|hge
  ·rw[ac6 hlt]at hx;obtain⟨v,v1,v2,v3⟩:=h2 i x hx
   grind
  ·rw[adh hge]at hx;obtain⟨v,v1,v2,v3⟩:=g2 _ x hx;refine⟨v,v1,v2,fun j y hy=>?_⟩
   have:=v3 j y hy
   simp only[aem]at this |-;have hm:es.length*sz<=i*sz:=ac4 _ hge
   grind [Nat.sub_mul]
 grind
theorem ll.mono_row{c d:Array Value}{sz:Nat}(h:ll S β es c sz)(hcd:∀(o:Nat)(x:Value),c[o]? = some x->d[o]? = some x):ll S β es d sz:=
 fun i e he=>let ⟨v,h1,h2,h3⟩:=h i e he;⟨v,h1,h2,fun j x hx=>hcd _ _ (h3 j x hx)⟩
theorem src_ok{a:AV}{v:Value}{sz:Nat}(_hw:Wf S w)(h:jX a=some es)(hv:VR S β a v)(hok:dK sz es=true)(hs:∀s,a= .str s->sz=1):
  (Builtin.lenOf v).run P w= .ok es.length w/\∃cs:List Value,fy S β es cs sz/\∀(w':World),(∀(b o:Nat)(x:Value),S b o=some x->w'.cell? ⟨b,o,none⟩=some x)->(Builtin.firstCells sz es.length v).run P w'= .ok cs.toArray w':=by
 unfold jX at h;split at h
 ·rename_i es0;simp only[acz]at h;subst h;simp only[VR]at hv;obtain⟨ad,cap,rfl,hc,hn,hsm⟩:=hv;refine⟨rfl,?_⟩;cases ad with
  |none=>
   have:=hn rfl
   have he:es0=[]:=acW WD;subst he;exact⟨[],.nil sz,fun w' _=>by simp[Builtin.firstCells]⟩
  | some q=>
   obtain⟨h1,sz',hel⟩:=hsm q rfl;obtain⟨cs,g1,g2⟩:=vT hel hok;refine⟨cs,g1,fun w' hw'=>?_⟩;refine run_firstCells_some w' sz es0.length q es0.length cap cs g1.1 fun j x hx=>?_;have h0:0<cap:=by
    rcases adp cap with h|h
    ·have hl:es0.length=0:=WD
     have hc0:=g1.1
     grind
    ·exact h
   have hq:q=⟨q.block,q.off,none⟩:=by
    have:=h1 h0
    cases q;simp_all
   rw[hq,addr_add];exact hw' _ _ _ (g2 j x hx)
 ·simp only[acz]at h;subst h;simp only[VR]at hv;subst hv;exact⟨rfl,[],.nil sz,fun w' _=>by simp[Builtin.firstCells]⟩
 ·simp only[acz]at h;subst h;simp only[VR]at hv;obtain⟨a0,rfl⟩:=hv;refine⟨rfl,[],.nil sz,fun w' _=>?_⟩;cases a0 with
  |none=>simp[Builtin.firstCells]
  |some q=>grind [run_firstCells_some]
 ·simp only[acz]at h;subst h;simp only[VR]at hv;rcases hv with⟨_,cap,_,_,rfl,_⟩|⟨_,_,rfl⟩
  ·exact⟨rfl,[],.nil sz,fun w' _=>run_firstCells_some w' sz 0 _ 0 cap [] AI fun j x hx=>by simp at hx⟩
  ·exact⟨rfl,[],.nil sz,fun w' _=>run_firstCells_some w' sz 0 _ 0 0 [] AI fun j x hx=>by simp at hx⟩
 ·rename_i s;simp only[acz]at h;subst h
  have:=hs s rfl
  subst this;simp only[VR]at hv;obtain⟨y,rfl,hy⟩:=hv;have hsz:y.size=s.length:=by rw[<- hy,adE];rfl
  refine⟨by simp[Builtin.lenOf,hsz],s.map fun b=>.int .u8 b.toNat,⟨AI,?_,by simp[Value.oneCell']⟩,fun w' _=>?_⟩
  ·intro i e he;rw[adK]at he;cases hb:s[i]? with
   |none=>grind
   |some b=>
    rw[hb]at he;simp only[adv,acz]at he;subst he;refine⟨.int .u8 b.toNat,by simp[VR],rfl,fun j x hx=>?_⟩
    grind [Value.cells]
  ·have hx:(Array.map (fun b:UInt8=>Value.int IntKind.u8 (b.toNat:Int)) (y.extract 0 (s.map fun b=>AV.int IntKind.u8 (b.toNat:Int)).length).data)=(s.map fun b=>Value.int .u8 b.toNat).toArray:=by
    apply Array.ext';rw[Array.toList_map,extract_toList,hy];simp
   grind [Builtin.firstCells,Sem.run_pure]
 ·simp at h
end
section
variable {P:Program} {T:TT} {w:World} {S:az} {β:List bQ}
def Row(w:World)(b:Nat)(c:Array Value):Prop:=∃e:TypeId,w.heap[b]? = some (.cells c e (0,0))
theorem Row.cell{c:Array Value}(h:Row w b c)(o:Nat):w.cell? ⟨b,o,none⟩=c[o]?:=by
 obtain⟨e,h⟩:=h;exact cell_of_row w b o c e _ h
def xo(w:World)(sz:Nat)(v:Value):Prop:=
 ∃a len cap,v= .slice a len cap/\len<=cap/\(a=none->cap=0)/\(len=cap\/∃b off c,a=some ⟨b,off,none⟩/\Row w b c/\off+cap*sz<=c.size)
inductive Appended (S:az) (β:List bQ) (w:World) (sz:Nat) (as bs:List AV) (vx:Value):Value->World->Prop where
 |same (h:bs=[]):Appended S β w sz as bs vx vx w
 | place (b off cap:Nat) (c:Array Value) (cs:List Value) (hv:vx= .slice (some ⟨b,off,none⟩) as.length cap) (hr:Row w b c) (hlt:as.length+bs.length<=cap) (hc:off+cap*sz<=c.size) (hb:bs≠[]) (hf:fy S β bs cs sz):
   Appended S β w sz as bs vx (.slice (some ⟨b,off,none⟩) (as.length+bs.length) cap)
    (w.setRow b (c.toList.take (off+as.length*sz)++cs++c.toList.drop (off+as.length*sz+cs.length)).toArray)
 | fresh (c:Array Value) (e cap:Nat) (hlt:as.length+bs.length<=cap) (hc:c.size=cap*sz) (hr:ll S β (as++bs) c sz) (hb:bs≠[]):
   Appended S β w sz as bs vx (.slice (some ⟨w.heap.size,0,none⟩) (as.length+bs.length) cap) (w.drew.alloc (.cells c e))
theorem GW(hT:TOK P T)(hw:Wf S w){u e ty:Nat}{ei:TI}{as bs:List AV}{vy:Value}(ht:T t=some ti)(hk:ti.kind= .slice e)(hei:T e=some ei)(hu:lx T u=true)(hx:VR S β (.sl as) vx)(hlen:(Builtin.lenOf vy).run P w= .ok bs.length w){cs:List Value}(hflat:fy S β bs cs ei.size)(hfirst:∀w':World,(∀a:Addr,w'.cell? a=w.cell? a)->(Builtin.firstCells ei.size bs.length vy).run P w'= .ok cs.toArray w')(hoa:dK ei.size as=true)(hby:(as.length+bs.length)*ei.bytes<=140737488355328)(hb0:0<ei.bytes)(hroom:xo w ei.size vx):
  ∃v w',(Builtin.append_ #[t,u] ty #[vx,vy]).run P w= .ok v w'/\Appended S β w ei.size as bs vx v w':=by
 obtain⟨_,d,_,_,hd,_,_,_,_,hkd,_⟩:=(hT.get ht).ex;have hd':d= .slice e:=by cases d<;>simp_all[kindOf]
 subst hd';obtain⟨ii,_,zz,hii,_,hzz,hzs,hsz,hbb,_⟩:=(hT.get hei).ex;have hz:∃du,P.underlying u=some du/\((∃e',du= .slice e')\/du= .string):=by
  unfold lx at hu;split at hu
  ·rename_i tu htu;obtain⟨_,du,_,_,hdu,_,_,_,_,hku,_⟩:=(hT.get htu).ex;refine⟨du,hdu,?_⟩;split at hu
   ·rename_i e' hk';exact .inl ⟨e',by cases du<;>simp_all[kindOf]⟩
   ·exact .inr (by cases du<;>simp_all[kindOf])
   ·simp at hu
  ·simp at hu
 obtain⟨du,hdu,hduk⟩:=hz;obtain⟨a,len,cap,rfl,hlc,hnone,hspare⟩:=hroom;have hx0:=hx;simp only[VR]at hx;obtain⟨a',cap',he,_,_,hsome⟩:=hx;simp only[Value.slice.injEq]at he;obtain⟨rfl,rfl,rfl⟩:=he;by_cases hfit:as.length+bs.length<=cap
 ·-- in place
  by_cases hnil:bs=[]
  ·subst hnil;refine⟨.slice a as.length cap,w,?_,.same rfl⟩;have hcs:cs=[]:=acW (by have:=hflat.1;grind);subst hcs;have hf:(Builtin.firstCells ei.size 0 vy).run P w= .ok #[] w:=by simpa using hfirst w (fun _=>rfl)
   rcases hduk with⟨e',rfl⟩|rfl<;>cases a <;>
    simp[Builtin.append_,run_underlying hd,run_underlying hdu,sizeOf,typeInfo,hii,hsz,hlen,hlc,hf,storeCells]
  ·have hpos:0<bs.length:=aed.2 hnil;rcases hspare with hsp|⟨b,off,c,rfl,⟨ce,hrow⟩,hcap⟩
   ·omega
   ·refine⟨_,_,?_,.place b off cap c cs rfl ⟨ce,hrow⟩ hfit hcap hnil hflat⟩;have hf:=hfirst w (fun _=>rfl);have hl:=hflat.1;have hle:(as.length+bs.length)*ei.size<=cap*ei.size:=ac4 _ hfit;rw[Nat.add_mul]at hle;have hst:=run_storeCells_at P b (off+as.length*ei.size) ce cs 0 c w hrow WD hflat.2.2;simp only[aeG]at hst;rcases hduk with⟨e',rfl⟩|rfl <;>
     simp[Builtin.append_,run_underlying hd,run_underlying hdu,sizeOf,typeInfo,hii,hsz,hlen,hfit,hf,addr_add,hst]
 ·-- a new row
  have hne:bs≠[]:=by rintro rfl;simp at hfit;omega
  have hgt:cap<as.length+bs.length:=WD
  have h63:¬(9223372036854775807<((as.length:Int)+(bs.length:Int))):=by
   have:=adi (afh (as.length+bs.length) hb0) hby
   omega
  have hfit48:=growslice_fits hgt hby;have h48:¬(281474976710656<Builtin.nextslicecap (as.length+bs.length) cap*ei.bytes):=WD
  have hb0':ei.bytes≠0:=WD
  -- the old cells
  have hold:∃os:List Value,fy S β as os ei.size/\(Builtin.firstCells ei.size as.length (.slice a as.length cap)).run P w.drew= .ok os.toArray w.drew:=by
   obtain⟨_,os,h1,h2⟩:=src_ok (P:=P) (es:=as) (sz:=ei.size) hw (a:=.sl as) rfl hx0 hoa (fun s h=>by cases h);exact⟨os,h1,h2 w.drew (fun b o x hx=>by simpa using hw b o x hx)⟩
  obtain⟨os,hos,hof⟩:=hold;have hf:=hfirst w.drew (fun a=>AI);have hall:=hos.append hflat;have hcapn:as.length+bs.length<=grownCap w (as.length+bs.length) cap e:=by
   exact Nat.le_add_right _ _
  have hzcs:(Builtin.zeroCells zz.cells (grownCap w (as.length+bs.length) cap e-(as.length+bs.length))).size=(grownCap w (as.length+bs.length) cap e-(as.length+bs.length))*ei.size:=by
   rw[size_zeroCells,hzs,hsz]
  refine⟨_,_,?_,.fresh ((os++cs).toArray++Builtin.zeroCells zz.cells (grownCap w (as.length+bs.length) cap e-(as.length+bs.length))) e (grownCap w (as.length+bs.length) cap e) hcapn ?_ ?_ hne⟩
  ·rcases hduk with⟨e',rfl⟩|rfl <;>
    (simp[Builtin.append_,run_underlying hd,run_underlying hdu,sizeOf,typeInfo,zeroValue,hii,hsz,hzz,hlen,hfit,hbb,h48,hb0',Question.forced,hf,hof,newRow,grownCap]
     grind)
  ·rw[Array.size_append,hzcs]
   have:=hall.1
   simp only[adn,this,ac7];rw[<- Nat.add_mul]
   grind
  ·exact hall.2.1.mono_row fun o x hx=>by
    grind
end
inductive Owner where
 |no
 |heap (l:Nat)
 |loc (B:Nat)
 |grp (g:Nat)
class Dr where
 on:Prop
variable [Dr]
structure Gro (w w':World):Prop where
 size:w.heap.size<=w'.heap.size
 os:w'.os=w.os
 out:w'.output=w.output
 tape:w'.tape=w.tape
 cnt:Dr.on->w.drawn<=w'.drawn
theorem Gro.refl(w:World):Gro w w:=⟨acC _,rfl,rfl,rfl,fun _=>acC _⟩
theorem Gro.trans{a b c:World}(h:Gro a b)(g:Gro b c):Gro a c:=
 ⟨adi h.size g.size,g.os.trans h.os,g.out.trans h.out,g.tape.trans h.tape,fun d=>adi (h.cnt d) (g.cnt d)⟩
theorem Gro.drew(w:World):Gro w w.drew:=⟨acC _,rfl,rfl,rfl,fun _=>AI⟩
theorem Gro.alloc(w:World)(c:Array Value)(t:TypeId):Gro w (w.alloc (.cells c t)):=
 ⟨AI,rfl,rfl,rfl,fun _=>AI⟩
def WC(S:az):Prop:=∀g cs,Jn g=some cs->∃vs,be S [] cs vs/\il S g 0 vs
omit [Dr]in
theorem WC.mono{S:az}(h:WC S)(hl:S.le S'):WC S':=fun g cs hg=>by
 obtain⟨vs,h1,h2⟩:=h g cs hg;exact⟨vs,be.mono hl (ig.refl []) _ _ h1,h2.mono hl⟩
structure Entry where
 w:World
 S:az
 β:List bQ
 E:Nat->Prop
 gok:GOKw w/\(∀b,b<gN->¬E b)/\WC S
def jp(S:az)(β:List bQ)(lam:Nat->Option Nat):SV->Value->Prop
 |.val a,v=>VR S β a v
 |.loc B off,v=>∃b,lam B=some b/\v= .pointer (some ⟨b,off,none⟩)
def vz(S:az)(w:World)(ω:Nat->Owner)(g:Nat)(z:Option Nat)(v:Value):Prop:=
 ∃a len cap,v= .slice a len cap/\len<=cap/\(a=none->cap=0)/\(len=cap\/∃sz b off x,z=some sz/\a=some ⟨b,off,none⟩/\Row w b x/\off+cap*sz<=x.size/\
  ω b= .grp g/\∀o,off+len*sz<=o->S b o=none)
omit [Dr]in
theorem Df{xs:List AV}(h:x∈setCells cs off xs):x∈cs\/x∈xs:=by
 grind [setCells]
def fU(t:Nat)(cs:List AV):Prop:=∃a,a∈cs/\GA a=some t
section
omit [Dr]
theorem fU.mono{ds:List AV}(h:fU t cs)(g:∀a,a∈cs->a∈ds):fU t ds:=by
 obtain⟨a,h1,h2⟩:=h;exact⟨a,g a h1,h2⟩
theorem fU.append{ds:List AV}(h:fU t (cs++ds)):fU t cs\/fU t ds:=by
 obtain⟨a,h1,h2⟩:=h;rcases acZ.1 h1 with h1|h1
 ·exact .inl ⟨a,h1,h2⟩
 ·exact .inr ⟨a,h1,h2⟩
theorem fU.cons{c:AV}{ds:List AV}(h:fU t (c:: ds)):GA c=some t\/fU t ds:=by
 obtain⟨a,h1,h2⟩:=h;rcases ac2.1 h1 with rfl|h1
 ·exact .inl h2
 ·exact .inr ⟨a,h1,h2⟩
theorem fU.setCells{xs:List AV}(h:fU t (Av.setCells cs off xs)):fU t cs\/fU t xs:=by
 obtain⟨a,h1,h2⟩:=h;rcases Df h1 with h1|h1
 ·exact .inl ⟨a,h1,h2⟩
 ·exact .inr ⟨a,h1,h2⟩
theorem oB(h:cs.all aO=true)(t:Nat):¬fU t cs:=fun⟨a,h1,h2⟩=>by
 have:=acQ.1 h a h1
 cases a<;>simp[GA]at h2<;>simp[aO]at this
theorem FP{sz:Nat}{e:AV}(h:cn sz e=true)(t:Nat):¬fU t (ab e):=by
 simp_all[cn,oB]
theorem oC{sz:Nat}(h:dK sz es=true)(t:Nat):¬fU t (es.flatMap ab):=fun⟨a,h1,h2⟩=>by
 rw[aeQ]at h1;obtain⟨e,he,hh⟩:=h1;exact FP (acQ.1 h e he) t ⟨a,hh,h2⟩
theorem QN(h:cs.any yG=false)(t:Nat):¬fU t cs:=fun⟨a,h1,h2⟩=>by
 grind [yG]
end
def mr(S:az)(β:List bQ)(es:List AV)(ents:List MapEntry):Prop:=
 es.length=ents.length/\∀(i:Nat)(e:AV)(x:MapEntry),es[i]? = some e->ents[i]? = some x->∃k v,e= .tup [k,v]/\VR S β k x.key/\VR S β v x.val
def my(ents:List MapEntry)(clock:Nat):Prop:=(∀x∈ents,x.born<clock)/\ents.Pairwise fun x y=>x.born≠y.born
def MapAt(S:az)(β:List bQ)(w:World)(b:Nat)(es:List AV):Prop:=
 ∃ents clock,w.heap[b]? = some (.map ents clock)/\mr S β es ents.toList/\my ents.toList clock
def dF(ents:List MapEntry)(seen:Array Nat):List Nat:=
 (List.range ents.length).filter fun i=>match ents[i]? with
  |some x=>!seen.contains x.born
  |none=>false
def LP(β:List bQ)(w:World)(h:Hp)(b:Nat)(cs:List AV):Prop:=
 (∃l n ps b' since seen last cur,cs=[.tup [],.mp l,.int .i64 (n:Nat),FV ps,cur]/\β[l]? = some (b',0)/\since<=last/\w.heap[b]? = some (.mapIter (some b') since seen last)/\
  (cur= .any\/∃c:Nat,cur= .int .i64 (c:Nat))/\
  ∀es,h[l]? = some [.tup es]->n<=es.length/\(es.length=n->∃ents clock,w.heap[b']? = some (.map ents clock)/\(∀x∈ents.toList,x.born<since)/\ps=dF ents.toList seen/\last=clock/\
   ∀c:Nat,cur= .int .i64 (c:Nat)->∃x,ents.toList[c]? = some x/\seen.back? = some x.born))\/
 (cs=[.tup [],.nilm]/\∃since seen last,w.heap[b]? = some (.mapIter none since seen last))
def wK(S:az)(β:List bQ)(w:World)(h:Hp)(b:Nat)(cs:List AV):Prop:=(∃es,cs=[.tup es]/\MapAt S β w b es)\/LP β w h b cs
def Sx(w:World)(b:Nat)(cs:List AV):Prop:=∀t,fU t cs->∃y,w.heap[b]? = some (.cells y t (0,0))
def ge(S:az)(β:List bQ)(w:World)(ω:Nat->Owner)(h:Hp):Prop:=
 ∀l cs,h[l]? = some cs->cs≠[]->(∃b x,β[l]? = some (b,x.size)/\Row w b x/\ω b= .heap l/\be S β cs (x.toList.take cs.length)/\(∀o,S b o=none)/\Sx w b cs)\/
  (∃b,β[l]? = some (b,0)/\ω b= .heap l/\(∀o,S b o=none)/\wK S β w h b cs)
section
omit [Dr]
theorem mr.mono{S:az}{β β':List bQ}(hS:S.le S')(hβ:ig β β'){ents:List MapEntry}(h:mr S β es ents):mr S' β' es ents:=
 ⟨h.1,fun i e x he hx=>by
  obtain⟨k,v,h1,h2,h3⟩:=h.2 i e x he hx
  grind [VR.mono]⟩
theorem wK.lt{S:az}{β:List bQ}{w:World}{h:Hp}(H:wK S β w h b cs):b<w.heap.size:=by
 rcases H with⟨es,_,ents,clock,h1,_⟩|⟨_,_,_,_,_,_,_,_,_,_,_,h1,_⟩|⟨_,_,_,_,h1⟩<;>exact (acN.1 h1).1
theorem wK.keep{S:az}{β β':List bQ}{w:World}{h h':Hp}(H:wK S β w h b cs)(hS:S.le S')(hβ:ig β β')(hb:w'.heap[b]? = w.heap[b]?)(hm:∀(l b':Nat)(es:List AV),β[l]? = some (b',0)->h'[l]? = some [.tup es]->h[l]? = some [.tup es]/\w'.heap[b']? = w.heap[b']?):wK S' β' w' h' b cs:=by
 rcases H with⟨es,h1,ents,clock,h2,h3,h4⟩|⟨l,n,ps,b',since,seen,last,cur,h1,h2,h3,h4,hcu,h5⟩|⟨h1,since,seen,last,h2⟩
 ·exact .inl ⟨es,h1,ents,clock,hb.trans h2,h3.mono hS hβ,h4⟩
 ·refine .inr (.inl ⟨l,n,ps,b',since,seen,last,cur,h1,hβ _ _ h2,h3,hb.trans h4,hcu,fun es he=>?_⟩)
  grind
 ·exact .inr (.inr ⟨h1,since,seen,last,hb.trans h2⟩)
theorem ge.rowsA{S:az}{β β':List bQ}{w:World}{ω ω':Nat->Owner}{h h':Hp}(H:ge S β w ω h)(hS:S.le S')(hβ:ig β β')(_hβl:β.length=h.length)
  (step:∀l cs,h'[l]? = some cs->cs≠[]->(h[l]? = some cs/\∀b,b<w.heap.size->(∃n,β[l]? = some (b,n))->ω b= .heap l->ω' b= .heap l/\w'.heap[b]? = w.heap[b]? /\∀o,S b o=none->S' b o=none)\/
   (∃b x,β'[l]? = some (b,x.size)/\Row w' b x/\ω' b= .heap l/\be S' β' cs (x.toList.take cs.length)/\(∀o,S' b o=none)/\Sx w' b cs)):ge S' β' w' ω' h':=by
 have hm:∀(l b':Nat)(es:List AV),β[l]? = some (b',0)->h'[l]? = some [.tup es]->h[l]? = some [.tup es]/\w'.heap[b']? = w.heap[b']?:=fun l b' es hl he=>by
  rcases step l _ he (AI)with⟨g1,g2⟩|⟨b,x,g1,g2,g3,g4,g5⟩
  ·refine⟨g1,?_⟩;rcases H l _ g1 (AI)with⟨b,x,k1,k2,k3,k4,k5⟩|⟨b,k1,k2,k3,k4⟩
   ·rw[hl]at k1;simp only[acz,ado]at k1
    have:=k4.length
    grind
   ·have k0:=k1;rw[hl]at k1;simp only[acz,ado]at k1;rw[k1.1];exact (g2 b k4.lt ⟨_,k0⟩ k2).2.1
  ·have:=hβ _ _ hl
   rw[g1]at this;simp only[acz,ado]at this;have h2:=g4.length
   grind
 intro l cs hl hne;rcases step l cs hl hne with⟨g1,g2⟩|g
 ·rcases H l cs g1 hne with⟨b,x,k1,k2,k3,k4,k5,k6⟩|⟨b,k1,k2,k3,k4⟩
  ·have hlt:b<w.heap.size:=by
    obtain⟨t,k2⟩:=k2;exact (acN.1 k2).1
   obtain⟨j1,j2,j3⟩:=g2 b hlt ⟨_,k1⟩ k3;exact .inl ⟨b,x,hβ _ _ k1,by obtain⟨t,k2⟩:=k2;exact⟨t,j2.trans k2⟩,j1,k4.mono hS hβ,fun o=>j3 o (k5 o),fun t ht=>by obtain⟨y,hy⟩:=k6 t ht;grind⟩
  ·obtain⟨j1,j2,j3⟩:=g2 b k4.lt ⟨_,k1⟩ k2;exact .inr ⟨b,hβ _ _ k1,j1,fun o=>j3 o (k3 o),k4.keep hS hβ j2 hm⟩
 ·exact .inl g
theorem ge.rows{S:az}{β β':List bQ}{w:World}{ω ω':Nat->Owner}{h h':Hp}(H:ge S β w ω h)(hS:S.le S')(hβ:ig β β')(hβl:β.length=h.length)
  (step:∀l cs,h'[l]? = some cs->cs≠[]->(h[l]? = some cs/\∀b,b<w.heap.size->ω b= .heap l->ω' b= .heap l/\w'.heap[b]? = w.heap[b]? /\∀o,S b o=none->S' b o=none)\/
   (∃b x,β'[l]? = some (b,x.size)/\Row w' b x/\ω' b= .heap l/\be S' β' cs (x.toList.take cs.length)/\(∀o,S' b o=none)/\Sx w' b cs)):ge S' β' w' ω' h':=H.rowsA hS hβ hβl fun l cs hl hne=>(step l cs hl hne).imp (fun⟨g1,g2⟩=>⟨g1,fun b h1 _ h2=>g2 b h1 h2⟩) id
theorem ge.own{S:az}{β:List bQ}{w:World}{ω:Nat->Owner}{h:Hp}(H:ge S β w ω h)(hl:h[l]? = some cs)(hne:cs≠[]):
  ∃b n,β[l]? = some (b,n)/\b<w.heap.size/\ω b= .heap l/\∀o,S b o=none:=by
 rcases H l cs hl hne with⟨b,x,k1,⟨t,k2⟩,k3,_,k5,_⟩|⟨b,k1,k2,k3,k4⟩
 ·grind
 ·exact⟨b,_,k1,k4.lt,k2,k3⟩
theorem ge.cells{S:az}{β:List bQ}{w:World}{ω:Nat->Owner}{h:Hp}(H:ge S β w ω h){n:Nat}(hl:h[l]? = some cs)(hne:cs≠[])(hb:β[l]? = some (b,n))(h0:n≠0):
  ∃x,β[l]? = some (b,x.size)/\Row w b x/\ω b= .heap l/\be S β cs (x.toList.take cs.length)/\∀o,S b o=none:=by
 rcases H l cs hl hne with⟨b',x,k1,k2,k3,k4,k5,_⟩|⟨b',k1,k2⟩
 all_goals grind
theorem ge.of_row{S:az}{β:List bQ}{w:World}{ω:Nat->Owner}{h:Hp}(H:ge S β w ω h){n:Nat}{x:Array Value}(hl:h[l]? = some cs)(hne:cs≠[])(hb:β[l]? = some (b,n))(hrow:Row w b x):
  β[l]? = some (b,x.size)/\ω b= .heap l/\be S β cs (x.toList.take cs.length)/\∀o,S b o=none:=by
 rcases H l cs hl hne with⟨b',x',k1,⟨t',k2⟩,k3,k4,k5,_⟩|⟨b',k1,_,_,k2⟩
 ·rw[hb]at k1;simp only[acz,ado]at k1;obtain⟨rfl,rfl⟩:=k1;obtain⟨t,hrow⟩:=hrow
  grind
 ·rw[hb]at k1;simp only[acz,ado]at k1;obtain⟨rfl,_⟩:=k1;obtain⟨t,hrow⟩:=hrow;rcases k2 with⟨_,_,_,_,k,_⟩|⟨_,_,_,_,_,_,_,_,_,_,_,k,_⟩|⟨_,_,_,_,k⟩<;>(grind)
theorem ge.tag{S:az}{β:List bQ}{w:World}{ω:Nat->Owner}{h:Hp}(H:ge S β w ω h){n:Nat}(hl:h[l]? = some cs)(ht:fU t cs)(hb:β[l]? = some (b,n)):∃y,w.heap[b]? = some (.cells y t (0,0)):=by
 rcases H l cs hl (by rintro rfl;obtain⟨_,h,_⟩:=ht;cases h)with⟨b',x,k1,_,_,_,_,k6⟩|⟨b',_,_,_,k4⟩
 ·rw[hb]at k1;simp only[acz,ado]at k1;rw[k1.1];exact k6 t ht
 ·rcases k4 with⟨es,h1,_⟩|⟨l',n,ps,b',since,seen,last,cur,h1,_,_,_,rfl|⟨c,rfl⟩,_⟩|⟨h1,_⟩<;>(subst h1;simp[FV,fU,GA]at ht)
end
def kb(c:Entry)(ω:Nat->Owner)(b:Nat):Prop:=(c.E b/\∀g,ω b≠.grp g)\/c.w.heap.size<=b
section
omit [Dr]
theorem kb.of_eq{c:Entry}{ω ω':Nat->Owner}(h:kb c ω b)(he:ω' b=ω b):kb c ω' b:=
 h.imp (fun⟨h1,h2⟩=>⟨h1,fun g=>qr⟩) id
theorem kb.of_not{c:Entry}{ω ω':Nat->Owner}(h:kb c ω b)(he:∀g,ω' b≠.grp g):kb c ω' b:=h.imp (fun⟨h1,_⟩=>⟨h1,he⟩) id
theorem kb.low{c:Entry}{ω:Nat->Owner}(h:kb c ω b):c.E b\/c.w.heap.size<=b:=h.imp And.left id
theorem kb.grp{c:Entry}{ω:Nat->Owner}{g:Nat}(h:kb c ω b)(hg:ω b= .grp g):c.w.heap.size<=b:=by
 rcases h with⟨_,h⟩|h
 all_goals grind
end
structure FR (c:Entry) (N:Nat) (U:Nat->Prop) (e:Env) (h:Hp) (a:Act) (w:World) (S:az) (β:List bQ) (γ:Nat->Value) (lam:Nat->Option Nat) (ω:Nat->Owner):Prop where
 wf:Wf S w
 gro:Gro c.w w
 keep:∀b,b<c.w.heap.size->¬c.E b->w.heap[b]? = c.w.heap[b]? /\∀o,S b o=c.S b o
 le:c.S.le S
 ext:ig c.β β
 hlen:β.length=h.length
 heap:ge S β w ω h
 tsz:N<=a.tmps.size/\N<=1000
 slots:∀t,t<1000->jp S β lam (e.get t).v (a.tmps.getD t undef)
 grps:∀t g z,t<1000->(e.get t).g=some g->aQ e.al g=some z->a.tmps.getD t undef=γ g
 lblk:∀B n,bb e.lb B=some n->B % 1000=0/\1000<=B/\n<1000/\∃b x,lam B=some b/\Row w b x/\ω b= .loc B/\(∀o,S b o=none)/\
  ∀i,i<n->∃v a',x[i]? = some v/\(e.get (B+i)).v= .val a'/\VR S β a' v/\∀g z,(e.get (B+i)).g=some g->aQ e.al g=some z->v=γ g
 free:∀g z,aQ e.al g=some z->vz S w ω g z (γ g)
 mine:∀b,ω b≠.no->kb c ω b/\b<w.heap.size
 used:(∀t g,(e.get t).g=some g->U g)/\(∀g z,aQ e.al g=some z->U g)
theorem FR.size{c:Entry}{N:Nat}{U:Nat->Prop}{e:Env}{h:Hp}{a:Act}{w:World}{S:az}{β:List bQ}{γ:Nat->Value}{lam:Nat->Option Nat}{ω:Nat->Owner}(H:FR c N U e h a w S β γ lam ω):c.w.heap.size<=w.heap.size:=H.gro.size
theorem FR.gokw{c:Entry}{N:Nat}{U:Nat->Prop}{e:Env}{h:Hp}{a:Act}{w:World}{S:az}{β:List bQ}{γ:Nat->Value}{lam:Nat->Option Nat}{ω:Nat->Owner}(H:FR c N U e h a w S β γ lam ω):GOKw w:=
 c.gok.1.mono fun b hb=>(H.keep b (Nat.lt_of_lt_of_le hb c.gok.1.lt) (c.gok.2.1 b hb)).1
section
omit [Dr]
theorem Row.lt{w:World}{x:Array Value}(h:Row w b x):b<w.heap.size:=by
 obtain⟨e,h⟩:=h
 grind
theorem Row.of_eq{w:World}{x:Array Value}(h:Row w b x)(he:w'.heap[b]? = w.heap[b]?):Row w' b x:=by
 obtain⟨e,h⟩:=h;exact⟨e,by rw[he,h]⟩
theorem Wf.lt{S:az}{w:World}(h:Wf S w){o:Nat}{v:Value}(hv:S b o=some v):b<w.heap.size:=block_lt_of_cell (h b o v hv)
theorem Wf.none{S:az}{w:World}(h:Wf S w){b:Nat}(hb:w.heap.size<=b)(o:Nat):S b o=none:=by
 cases hs:S b o with
 |none=>rfl
 |some v=>have:=h.lt hs;omega
theorem cell_of_heap{w:World}(h:w'.heap[b]? = w.heap[b]?)(o:Nat):w'.cell? ⟨b,o,none⟩=w.cell? ⟨b,o,none⟩:=by
 simp[World.cell?,h]
end
section
variable {c:Entry} {N:Nat} {U:Nat->Prop} {e:Env} {h:Hp} {a:Act} {w:World} {S:az} {β:List bQ} {γ:Nat->Value} {lam:Nat->Option Nat} {ω:Nat->Owner}
theorem FR.world(H:FR c N U e h a w S β γ lam ω)(hw:Wf S' w')(hg:Gro w w')(hk:∀b,b<w.heap.size->w'.heap[b]? = w.heap[b]? /\∀o,S' b o=S b o)(hle:S.le S'):FR c N U e h a w' S' β γ lam ω:=by
 have hrow:∀ {b x},Row w b x->Row w' b x:=fun hr=>hr.of_eq (hk _ hr.lt).1;have hs:=hg.size;refine⟨hw,H.gro.trans hg,fun b hb hE=>?_,az.le_trans H.le hle,H.ext,H.hlen,?_,H.tsz,?_,H.grps,?_,?_,fun b hb=>⟨(H.mine b hb).1,Nat.lt_of_lt_of_le (H.mine b hb).2 hs⟩,H.used⟩
 ·have h1:=hk b (Nat.lt_of_lt_of_le hb H.size);have h2:=H.keep b hb hE
  grind
 ·exact H.heap.rows hle (ig.refl β) H.hlen fun l cs hl hne=>.inl ⟨hl,fun b hb ho=>⟨ho,(hk b hb).1,fun o h0=>qr⟩⟩
 ·intro t ht
  have:=H.slots t ht
  cases hv:(e.get t).v with
  |val av=>rw[hv]at this;exact VR.mono hle (ig.refl β) _ _ this
  |loc B off=>rw[hv]at this;exact this
 ·intro B n hB;obtain⟨h1,h2,h3,b,x,h4,h5,h6,h7,h8⟩:=H.lblk B n hB;refine⟨h1,h2,h3,b,x,h4,hrow h5,h6,fun o=>by rw[(hk b h5.lt).2];exact h7 o,fun i hi=>?_⟩;obtain⟨v,a',g1,g2,g3,g4⟩:=h8 i hi;exact⟨v,a',g1,g2,VR.mono hle (ig.refl β) _ _ g3,g4⟩
 ·intro g z hg;obtain⟨a',len,cap,h1,h2,h3,h4⟩:=H.free g z hg;refine⟨a',len,cap,h1,h2,h3,h4.imp id ?_⟩;rintro⟨sz,b,off,x,g1,g2,g3,g4,g5,g6⟩;exact⟨sz,b,off,x,g1,g2,hrow g3,g4,g5,fun o ho=>by rw[(hk b g3.lt).2];exact g6 o ho⟩
theorem FR.drew(H:FR c N U e h a w S β γ lam ω):FR c N U e h a w.drew S β γ lam ω:=
 H.world (fun b o v hv=>by rw[World.cell?_drew];exact H.wf b o v hv) (Gro.drew w) (fun b _=>⟨rfl,fun _=>rfl⟩) (az.le_refl S)
omit [Dr]in
theorem alloc_old(w:World)(o:Obj)(hb:b<w.heap.size):(w.alloc o).heap[b]? = w.heap[b]?:=heap_alloc_old w o hb
theorem FR.alloc(H:FR c N U e h a w S β γ lam ω)(x:Array Value)(t:TypeId):FR c N U e h a (w.alloc (.cells x t)) S β γ lam ω:=
 H.world (fun b o v hv=>by rw[cell_of_heap (alloc_old w _ (H.wf.lt hv))];exact H.wf b o v hv) (Gro.alloc w x t) (fun b hb=>⟨alloc_old w _ hb,fun _=>rfl⟩) (az.le_refl S)
omit [Dr]in
theorem Row.new(w:World)(x:Array Value)(t:TypeId):Row (w.alloc (.cells x t)) w.heap.size x:=⟨t,heap_alloc_new w _⟩
def az.withRowTo(S:az)(b k:Nat)(x:Array Value):az:=fun b' o=>if b'=b then(if o<k then x[o]? else none)else S b' o
theorem FR.allocS(H:FR c N U e h a w S β γ lam ω)(x:Array Value)(t:TypeId)(k:Nat):FR c N U e h a (w.alloc (.cells x t)) (S.withRowTo w.heap.size k x) β γ lam ω:=by
 have hn:∀o,S w.heap.size o=none:=fun o=>H.wf.none (acC _) o;refine H.world (fun b o v hv=>?_) (Gro.alloc w x t) (fun b hb=>⟨alloc_old w _ hb,fun o=>?_⟩) (fun b o v hv=>?_)
 ·unfold az.withRowTo at hv;split at hv
  ·simp_all
  ·rw[cell_of_heap (alloc_old w _ (H.wf.lt hv))];exact H.wf b o v hv
 ·unfold az.withRowTo
  grind
 grind [az.withRowTo]
section
omit [Dr]
theorem cO(e:Env)(d:Option Tmp)(u:Upd)(t:Nat):(e.upd d u).get t=if d=some t then u.ent else cF (u.ls++e.sl) t:=by
 unfold Env.upd Env.get uf;cases d with
 |none=>simp
 |some s=>
  simp_all[cF]
theorem lg(a:Act)(d:Option Tmp)(v:Value){N:Nat}(hd:∀t,d=some t->t<N)(hN:N<=a.tmps.size)(t:Nat):
  (a.put d v).tmps.getD t undef=if d=some t then v else a.tmps.getD t undef:=by
 cases d with
 |none=>simp[Act.put]
 |some s=>
  have hlt:=hd s rfl;simp only[Act.put,acz,adQ,Array.getElem?_setIfInBounds]
  grind
theorem kM(a:Act)(d:Option Tmp)(v:Value):(a.put d v).tmps.size=a.tmps.size:=by
 cases d<;>simp[Act.put]
theorem dp(k:Nat)(x:Option Nat)(r:List (Nat×Option Nat))(g:Nat):aQ ((k,x):: r) g=if k=g then some x else aQ r g:=by
 simp_all[aQ]
theorem pR(r:List (Nat×Option Nat))(k g:Nat):aQ (AZ r k) g=if k=g then none else aQ r g:=by
 induction r with
 |nil=>simp[AZ,aQ]
 | cons x r ih=>
  obtain⟨j,y⟩:=x;simp only[AZ];by_cases hj:j=k
  ·simp_all[dp]
  ·have:Nat.beq j k=false:=by rw[adT];intro hh;exact hj (Nat.eq_of_beq_eq_true hh)
   simp only[this,acO,dp,ih]
   grind
end
theorem FR.set(H:FR c N U e h a w S β γ lam ω){d:Option Tmp}{x:Ent}{v:Value}(hd:∀t,d=some t->t<N)(hs:jp S β lam x.v v)(hg:∀g z,x.g=some g->aQ e.al g=some z->v=γ g)(hu:∀g,x.g=some g->U g):
  FR c N U (e.upd d { ent:=x }) h (a.put d v) w S β γ lam ω:=by
 have hget:∀t,(e.upd d { ent:=x }).get t=if d=some t then x else e.get t:=fun t=>by rw[cO];rfl
 have hal:(e.upd d { ent:=x }).al=e.al:=rfl;have hlb:(e.upd d { ent:=x }).lb=e.lb:=rfl;have hdl:∀B i:Nat,1000<=B->d≠some (B+i):=fun B i hB hh=>by have h1:B+i<N:=hd _ hh;have h2:=H.tsz.2;omega
 refine⟨H.wf,H.gro,H.keep,H.le,H.ext,H.hlen,H.heap,by rw[kM];exact H.tsz,fun t ht=>?_,fun t g z ht hgg hz=>?_,fun B n hB=>?_,H.free,H.mine,⟨fun t g hgg=>?_,H.used.2⟩⟩
 ·rw[hget,lg a d v hd H.tsz.1];split
  ·exact hs
  ·exact H.slots t ht
 ·rw[hget]at hgg;rw[lg a d v hd H.tsz.1];split at hgg
  ·grind
  ·rename_i hdt;rw[acE hdt];exact H.grps t g z ht hgg hz
 ·rw[hlb]at hB;obtain⟨h1,h2,h3,b,y,h4,h5,h6,h7,h8⟩:=H.lblk B n hB
  grind
 ·rw[hget]at hgg;split at hgg
  ·exact hu g hgg
  ·exact H.used.1 t g hgg
theorem FR.setV(H:FR c N U e h a w S β γ lam ω){d:Option Tmp}{v:Value}(hd:∀t,d=some t->t<N)(hv:VR S β r v):
  FR c N U (e.upd d (.ofV r)) h (a.put d v) w S β γ lam ω:=
 H.set (x:=⟨.val r,none⟩) hd hv (fun _ _ h=>by cases h) (fun _ h=>by cases h)
def eJ(ω:Nat->Owner)(b:Nat)(y:Owner):Nat->Owner:=fun b'=>if b'=b then y else ω b'
theorem FR.own(H:FR c N U e h a w S β γ lam ω){d:Option Tmp}{v:Value}{gid:Nat}{z:Option Nat}(hd:∀t,d=some t->t<N)(hv:VR S β r v)(hU:∀g,gid<=g->g<gid+1000->¬U g)
  (hf:(∃a len,v= .slice a len len/\(a=none->len=0))\/∃len cap sz b off x,v= .slice (some ⟨b,off,none⟩) len cap/\len<=cap/\z=some sz/\Row w b x/\off+cap*sz<=x.size/\ω b= .no/\c.w.heap.size<=b/\
   (∀o,off+len*sz<=o->S b o=none)):
  ∃ω',FR c N (fun g=>U g\/(gid<=g/\g<gid+1000)) (e.upd d (.own r gid z)) h (a.put d v) w S β (fun g=>if g=gid then v else γ g) lam ω':=by
 have hget:∀t,(e.upd d (.own r gid z)).get t=if d=some t then⟨.val r,some gid⟩else e.get t:=fun t=>by rw[cO];rfl
 have hal:(e.upd d (.own r gid z)).al=(gid,z):: e.al:=rfl;have hlb:(e.upd d (.own r gid z)).lb=e.lb:=rfl;have hdl:∀B i:Nat,1000<=B->d≠some (B+i):=fun B i hB hh=>by have h1:B+i<N:=hd _ hh;have h2:=H.tsz.2;omega
 have hne:∀t g,(e.get t).g=some g->g≠gid:=fun t g hg hh=>hU g WD WD (H.used.1 t g hg);have hna:∀g y,aQ e.al g=some y->g≠gid:=fun g y hg hh=>hU g WD WD (H.used.2 g y hg);have halv:∀g,g≠gid->aQ ((gid,z):: e.al) g=aQ e.al g:=fun g hg=>by rw[dp,acE (fun h=>hg h.symm)]
 have key:∀ω':Nat->Owner,(∀b,ω b≠.no->ω' b=ω b)->(∀b,ω' b≠.no->kb c ω' b/\b<w.heap.size)->vz S w ω' gid z v->
   FR c N (fun g=>U g\/(gid<=g/\g<gid+1000)) (e.upd d (.own r gid z)) h (a.put d v) w S β (fun g=>if g=gid then v else γ g) lam ω':=by
  intro ω' hω hmine hfree;refine⟨H.wf,H.gro,H.keep,H.le,H.ext,H.hlen,?_,by rw[kM];exact H.tsz,fun t ht=>?_,fun t g y ht hgg hz=>?_,fun B n hB=>?_,fun g y hg=>?_,hmine,⟨fun t g hgg=>?_,fun g y hg=>?_⟩⟩
  ·exact H.heap.rows (az.le_refl S) (ig.refl β) H.hlen fun l cs hl _=>.inl ⟨hl,fun b _ ho=>⟨qr,rfl,fun o h=>h⟩⟩
  ·rw[hget,lg a d v hd H.tsz.1];split
   ·exact hv
   ·exact H.slots t ht
  ·rw[hget]at hgg;rw[hal]at hz;rw[lg a d v hd H.tsz.1];split at hgg
   ·grind
   ·rename_i hdt;have hg:=hne t g hgg;rw[acE hdt,acE hg];rw[halv g hg]at hz;exact H.grps t g y ht hgg hz
  ·rw[hlb]at hB;obtain⟨h1,h2,h3,b,x,h4,h5,h6,h7,h8⟩:=H.lblk B n hB
   grind
  ·rw[hal,dp]at hg;split at hg
   ·grind
   ·rename_i hgg;have hgn:g≠gid:=fun h=>hgg h.symm;simp only[acE hgn];obtain⟨a',len,cap,h1,h2,h3,h4⟩:=H.free g y hg;refine⟨a',len,cap,h1,h2,h3,h4.imp id ?_⟩
    grind
  ·rw[hget]at hgg;split at hgg
   ·grind
   ·exact .inl (H.used.1 t g hgg)
  ·rw[hal,dp]at hg;split at hg
   ·grind
   ·exact .inl (H.used.2 g y hg)
 rcases hf with⟨ad,len,rfl,hn⟩|⟨len,cap,sz,b,off,x,rfl,h1,h2,h3,h4,h5,h6,h7⟩
 ·exact⟨ω,key ω (fun _ _=>rfl) H.mine ⟨ad,len,len,rfl,acC _,hn,.inl rfl⟩⟩
 ·refine⟨eJ ω b (.grp gid),key _ (fun b' hb'=>?_) (fun b' hb'=>?_) ⟨some ⟨b,off,none⟩,len,cap,rfl,h1,(fun h=>by cases h),.inr ⟨sz,b,off,x,h2,rfl,h3,h4,by simp[eJ],h7⟩⟩⟩
  ·unfold eJ
   grind
  ·unfold eJ at hb';split at hb'
   ·rename_i hbb;subst hbb;exact⟨.inr h6,h3.lt⟩
   ·rename_i hbb;exact⟨(H.mine b' hb').1.of_eq (by unfold eJ;rw[acE hbb]),(H.mine b' hb').2⟩
end
end Go.Av
namespace Go.Av
variable [Dr]
omit [Dr]in
theorem dC(k:Nat)(x:Ent)(r:List (Nat×Ent))(t:Nat):cF ((k,x):: r) t=if k=t then x else cF r t:=by
 simp_all[cF]
omit [Dr]in
theorem FD(f:Nat->Ent)(B:Nat)(r:List (Nat×Ent))(t:Nat):∀n k,cF (((List.range' k n).map fun i=>(B+i,f i))++r) t=
  if B+k<=t/\t<B+k+n then f (t-B)else cF r t:=by
 intro n
 induction n with
 |zero=>grind
 |succ n ih=>
  intro k;simp only[List.range'_succ,ac3,ac1,dC,ih]
  grind
def np(cs:List AV)(offs:List Nat)(gid i:Nat):Ent:=bif dM offs i then⟨.val (.sl []),some (gid+i)⟩else⟨.val (aD cs i),none⟩
section
omit [Dr]
theorem yM(B:Nat)(cs:List AV)(offs:List Nat)(gid n:Nat)(r:List (Nat×Ent))(t:Nat):
  cF (lX B cs offs gid n++r) t=if B<=t/\t<B+n then np cs offs gid (t-B)else cF r t:=by
 have:=FD (np cs offs gid) B r t n 0
 rw[<- List.range_eq_range']at this;show cF ((List.range n).map (fun i=>(B+i,np cs offs gid i))++r) t=_
 grind
theorem zU(A r:List (Nat×Option Nat))(g:Nat):aQ (A++r) g=match aQ A g with|some z=>some z|none=>aQ r g:=by
 induction A with
 |nil=>simp[aQ]
 |cons x A ih=>
  grind [dp]
theorem fG(k n:Nat)(r:List (Nat×Nat))(B:Nat):bb ((k,n):: r) B=if k=B then some n else bb r B:=by
 simp_all[bb]
theorem Fx(r:List (Nat×Nat))(k B:Nat):bb (rC r k) B=if k=B then none else bb r B:=by
 induction r with
 |nil=>simp[rC,bb]
 | cons x r ih=>
  obtain⟨j,y⟩:=x;simp only[rC];by_cases hj:j=k
  ·simp_all[fG]
  ·have:Nat.beq j k=false:=by rw[adT];intro hh;exact hj (Nat.eq_of_beq_eq_true hh)
   simp only[this,acO,fG,ih]
   grind
theorem jM(l:List Nat)(t:Nat):dM l t=true↔t∈l:=by
 induction l with
 |nil=>simp[dM]
 | cons k l ih=>
  simp only[dM,ac2];by_cases hk:k=t
  ·subst hk;simp
  ·have:Nat.beq k t=false:=by rw[adT];intro hh;exact hk (Nat.eq_of_beq_eq_true hh)
   grind
end
def jo(A:List (Nat×Option Nat))(gid:Nat):Prop:=∀g z,aQ A g=some z->z=none/\gid<=g/\g<gid+1000
variable {offs:List Nat}
section
omit [Dr]
theorem qA{gid n:Nat}(h:∀i∈offs,i<n)(hn:n<1000):jo (uI offs gid) gid:=by
 intro g z hg;unfold uI at hg
 induction offs with
 |nil=>simp[aQ]at hg
 | cons i offs ih=>
  simp only[ac3,dp]at hg;split at hg
  ·rename_i hi;simp only[acz]at hg
   have:=h i AI
   grind
  grind
theorem kK(gid:Nat):jo [] gid:=fun g z h=>by simp[aQ]at h
theorem Aj(gid:Nat):jo [(gid,none)] gid:=fun g z h=>by
 grind [dp,aQ]
end
variable {x:Array Value}{cs:List AV}{B b off:Nat}
section
variable {c:Entry} {N:Nat} {U:Nat->Prop} {e:Env} {h:Hp} {a:Act} {w:World} {S:az} {β:List bQ} {γ:Nat->Value} {lam:Nat->Option Nat} {ω:Nat->Owner}
def γN(γ:Nat->Value)(gid:Nat):Nat->Value:=fun g=>if gid<=g/\g<gid+1000 then .slice none 0 0 else γ g
theorem jr(H:FR c N U e h a w S β γ lam ω){A:List (Nat×Option Nat)}{gid:Nat}(hU:∀g,gid<=g->g<gid+1000->¬U g)(hA:jo A gid){g:Nat}{z:Option Nat}(hg:aQ (A++e.al) g=some z):(z=none/\gid<=g/\g<gid+1000)\/(aQ e.al g=some z/\¬(gid<=g/\g<gid+1000)):=by
 rw[zU]at hg;cases hh:aQ A g with
 |some y=>rw[hh]at hg;simp only[acz]at hg;subst hg;exact .inl (hA g _ hh)
 |none=>
  rw[hh]at hg;exact .inr ⟨hg,fun hr=>hU g hr.1 hr.2 (H.used.2 g z hg)⟩
theorem E2(H:FR c N U e h a w S β γ lam ω){A:List (Nat×Option Nat)}{gid:Nat}(hU:∀g,gid<=g->g<gid+1000->¬U g)(hA:jo A gid){ω':Nat->Owner}{w':World}(hω:∀b,ω b≠.no->ω' b=ω b)(hrow:∀b x g,ω b= .grp g->Row w b x->Row w' b x){g:Nat}{z:Option Nat}(hg:aQ (A++e.al) g=some z):vz S w' ω' g z (γN γ gid g):=by
 rcases jr H hU hA hg with⟨rfl,h1⟩|⟨h1,h2⟩
 ·unfold γN;rw[acL h1];exact⟨none,0,0,rfl,acC _,fun _=>rfl,.inl rfl⟩
 ·unfold γN;rw[acE h2];obtain⟨a',len,cap,g1,g2,g3,g4⟩:=H.free g z h1;refine⟨a',len,cap,g1,g2,g3,g4.imp id ?_⟩
  grind
theorem FR.allocL(H:FR c N U e h a w S β γ lam ω){s n gid:Nat}{t:TypeId}(hs:s<N)(hU:∀g,gid<=g->g<gid+1000->¬U g)(hn:n<1000)(hcs:∀i,i<n->∃v,x[i]? = some v/\VR S β (aD cs i) v)(hnil:∀i∈offs,i<n/\x[i]? = some (.slice none 0 0))(hfree:aT e.sl (aN s)=true):
  ∃lam' ω',FR c N (fun g=>U g\/(gid<=g/\g<gid+1000)) (e.upd (some s) { ent:=⟨.loc (aN s) 0,none⟩,ls:=lX (aN s) cs offs gid n,add:=uI offs gid,lb:=some (aN s,n) }) h
   (a.put (some s) (.pointer (some ⟨w.heap.size,0,none⟩))) (w.alloc (.cells x t)) S β (γN γ gid) lam' ω':=by
 have H2:=H.alloc x t;have hA:jo (uI offs gid) gid:=qA (fun i hi=>(hnil i hi).1) hn;have hwn:∀o,S w.heap.size o=none:=fun o=>H.wf.none (acC _) o;have hωn:ω w.heap.size= .no:=by
  cases ho:ω w.heap.size with
  |no=>rfl
  |_=>have:=(H.mine w.heap.size (by rw[ho];simp)).2;omega
 have hω:∀b,ω b≠.no->eJ ω w.heap.size (.loc (aN s)) b=ω b:=fun b hb=>by
  unfold eJ;grind
 have hget:∀t',(e.upd (some s) { ent:=⟨.loc (aN s) 0,none⟩,ls:=lX (aN s) cs offs gid n,add:=uI offs gid,lb:=some (aN s,n) }).get t'=
   if s=t' then⟨.loc (aN s) 0,none⟩else if aN s<=t'/\t'<aN s+n then np cs offs gid (t'-aN s)else e.get t':=by
  intro t';rw[cO,yM];simp only[acz];rfl
 have hB:aN s=1000*(s+1):=rfl;have hN:=H.tsz.2;have hnoloc:∀t' off,(e.get t').v≠.loc (aN s) off:=by
  intro t' off hv;unfold Env.get at hv;unfold aT at hfree;rw[acQ]at hfree;revert hv hfree;generalize e.sl=l;intro hfree
  induction l with
  |nil=>intro hv;simp[cF,Ent.none]at hv
  |cons y l ih=>
   obtain⟨k,y⟩:=y;intro hv;rw[dC]at hv;split at hv
   ·simp_all
   grind
 have hmemoff:∀i,dM offs i=true->i<n/\x[i]? = some (.slice none 0 0):=fun i hi=>hnil i ((jM _ _).1 hi);refine⟨fun B'=>if B'=aN s then some w.heap.size else lam B',eJ ω w.heap.size (.loc (aN s)),H2.wf,H2.gro,H2.keep,H2.le,H2.ext,H2.hlen,?_,by rw[kM];exact H.tsz,?_,?_,?_,?_,?_,?_,?_⟩
 ·exact H2.heap.rows (az.le_refl S) (ig.refl β) H2.hlen fun l cs' hl _=>.inl ⟨hl,fun b _ ho=>⟨qr,rfl,fun o h=>h⟩⟩
 ·intro t' ht';rw[hget,lg a (some s) _ (fun t h=>qr) H.tsz.1];simp only[acz];by_cases hst:s=t'
  ·subst hst;simp only[acK,jp]
   grind
  ·rw[acE hst,acE hst,acE WD]
   have:=H2.slots t' ht'
   cases hv:(e.get t').v with
   |val av=>rw[hv]at this;exact this
   |loc B' off=>
    rw[hv]at this;simp only[jp]at this |-
    grind
 ·intro t' g z ht' hg hz;rw[hget]at hg;rw[lg a (some s) _ (fun t h=>qr) H.tsz.1];simp only[acz];by_cases hst:s=t'
  ·grind
  ·rw[acE hst,acE WD]at hg;rw[acE hst];have hr:¬(gid<=g/\g<gid+1000):=fun hr=>hU g hr.1 hr.2 (H.used.1 t' g hg);rcases jr H hU hA hz with⟨_,h1⟩|⟨h1,_⟩
   ·grind
   ·unfold γN;rw[acE hr];exact H.grps t' g z ht' hg h1
 ·intro B' n' hB';have hlb:(e.upd (some s) { ent:=⟨.loc (aN s) 0,none⟩,ls:=lX (aN s) cs offs gid n,add:=uI offs gid,lb:=some (aN s,n) }).lb=(aN s,n):: e.lb:=rfl;rw[hlb,fG]at hB';by_cases hBB:aN s=B'
  ·subst hBB;rw[acL rfl]at hB';simp only[acz]at hB';subst hB';refine⟨WD,WD,hn,w.heap.size,x,AI,Row.new w x t,by simp[eJ],hwn,fun i hi=>?_⟩;rw[hget,acE WD,acL WD,show aN s+i-aN s=i by omega];obtain⟨v,hv,hvr⟩:=hcs i hi;unfold np;cases hm:dM offs i with
   | true=>
    obtain⟨_,hx⟩:=hmemoff i hm;refine⟨_,.sl [],hx,rfl,?_,fun g z hg _=>?_⟩
    ·simp only[VR];grind
    ·simp only[acD,acz]at hg;unfold γN
     grind
   |false=>
    grind
  ·rw[acE hBB]at hB';obtain⟨h1,h2,h3,b,y,h4,h5,h6,h7,h8⟩:=H2.lblk B' n' hB';refine⟨h1,h2,h3,b,y,qr,h5,qr,h7,fun i hi=>?_⟩;rw[hget,acE WD,acE WD];obtain⟨v,a',g1,g2,g3,g4⟩:=h8 i hi;refine⟨v,a',g1,g2,g3,fun g z hg hz=>?_⟩;have hr:¬(gid<=g/\g<gid+1000):=fun hr=>hU g hr.1 hr.2 (H.used.1 _ g hg);rcases jr H hU hA hz with⟨_,k1⟩|⟨k1,_⟩
   all_goals simp_all[γN,acE]
 ·intro g z hg;exact E2 H hU hA hω (fun b y g' _ hr=>hr.of_eq (alloc_old w _ hr.lt)) hg
 ·intro b hb;unfold eJ at hb;split at hb
  ·rename_i hbb;subst hbb;exact⟨.inr H.size,AI⟩
  ·rename_i hbb;exact⟨(H2.mine b hb).1.of_eq qr,(H2.mine b hb).2⟩
 ·intro t' g hg;rw[hget]at hg;split at hg
  ·simp at hg
  ·split at hg
   ·rename_i hr;unfold np at hg
    grind
   ·exact .inl (H.used.1 t' g hg)
 ·intro g z hg;rcases jr H hU hA hg with⟨_,h1⟩|⟨h1,_⟩
  ·exact .inr h1
  ·exact .inl (H.used.2 g z h1)
omit [Dr]in
theorem fS(w:World)(b:Nat)(y:Array Value){k:Nat}(h:k≠b):(w.setRow b y).heap[k]? = w.heap[k]?:=setRow_other w b k y h
theorem Gro.setRow{w:World}(_:Row w b x)(y:Array Value):Gro w (w.setRow b y):=⟨AN,rfl,rfl,rfl,fun _=>AN⟩
omit [Dr]in
theorem Row.setRow{w:World}{y:Array Value}(h:Row w b x):Row (w.setRow b y) b y:=by
 obtain⟨e,h⟩:=h;exact⟨e,setRow_heap w b x y e _ h⟩
theorem Cd(H:FR c N U e h a w S β γ lam ω){y:Array Value}(hr:Row w b x)(hy:∀o v,S b o=some v->y[o]? = some v):Wf S (w.setRow b y):=by
 intro b' o v hv;by_cases hb:b'=b
 ·subst hb;rw[hr.setRow.cell];exact hy o v hv
 ·rw[cell_of_heap (fS w b y hb)];exact H.wf b' o v hv
theorem FR.storeL(H:FR c N U e h a w S β γ lam ω){m n gid:Nat}{vs:List Value}{L:List (Nat×Ent)}{A:List (Nat×Option Nat)}{ent:Nat->Ent}(hU:∀g,gid<=g->g<gid+1000->¬U g)(hA:jo A gid)(hm:bb e.lb B=some m)(hle:off+n<=m)(hvs:vs.length=n)(hlam:lam B=some b)(hrow:Row w b x)(hL:∀t,cF (L++e.sl) t=if B+off<=t/\t<B+off+n then ent (t-(B+off))else e.get t)(hent:∀i,i<n->∃v a',vs[i]? = some v/\(ent i).v= .val a'/\VR S β a' v/\(∀g z,(ent i).g=some g->aQ (A++e.al) g=some z->v=γN γ gid g)/\∀g,(ent i).g=some g->U g\/(gid<=g/\g<gid+1000))(u:Ent):
  FR c N (fun g=>U g\/(gid<=g/\g<gid+1000)) (e.upd none { ent:=u,ls:=L,add:=A }) h a (w.setRow b (x.toList.take off++vs++x.toList.drop (off+vs.length)).toArray) S β (γN γ gid) lam ω:=by
 obtain⟨hB1,hB2,hB3,b',x',h4,h5,h6,h7,h8⟩:=H.lblk B m hm;rw[hlam]at h4;cases h4;have hxx:x'=x:=by
  obtain⟨e1,h51⟩:=h5;obtain⟨e2,h52⟩:=hrow;rw[h51]at h52;simp only[acz,Obj.cells.injEq]at h52;exact h52.1
 subst hxx;have hxs:m<=x'.size:=by
  rcases adp m with h0|h0
  ·omega
  ·grind
 have hynew:∀i,(x'.toList.take off++vs++x'.toList.drop (off+vs.length)).toArray[i]? = if off<=i/\i<off+n then vs[i-off]? else x'[i]?:=by
  intro i;have htl:(x'.toList.take off).length=off:=by simp;omega
  simp only[aem];by_cases hi:i<off
  ·grind
  ·grind
 have hwf:Wf S (w.setRow b (x'.toList.take off++vs++x'.toList.drop (off+vs.length)).toArray):=Cd H h5 fun o v hv=>qr
 have hother:∀k,ω k≠.loc B->(w.setRow b (x'.toList.take off++vs++x'.toList.drop (off+vs.length)).toArray).heap[k]? = w.heap[k]?:=fun k hk=>fS w b _ qr;have hget:∀t',(e.upd none { ent:=u,ls:=L,add:=A }).get t'=if B+off<=t'/\t'<B+off+n then ent (t'-(B+off))else e.get t':=by
  intro t';rw[cO];simp only[reduceCtorEq,acI];exact hL t'
 have hal:(e.upd none { ent:=u,ls:=L,add:=A }).al=A++e.al:=rfl;have hlb:(e.upd none { ent:=u,ls:=L,add:=A }).lb=e.lb:=rfl;refine⟨hwf,H.gro.trans (Gro.setRow h5 _),fun k hk hE=>?_,H.le,H.ext,H.hlen,?_,H.tsz,?_,?_,?_,?_,?_,?_,?_⟩
 ·have:=H.keep k hk hE
  have hkb:k≠b:=by
   rintro rfl
   have:=(H.mine k (by rw[h6];simp)).1.low
   rcases this with h|h
   ·exact hE h
   ·omega
  grind [fS]
 ·exact H.heap.rows (az.le_refl S) (ig.refl β) H.hlen fun l cs' hl _=>.inl ⟨hl,fun k _ ho=>⟨ho,hother k (by rw[ho];simp),fun o h=>h⟩⟩
 ·intro t' ht';rw[hget,acE WD];exact H.slots t' ht'
 ·intro t' g z ht' hg hz;rw[hget,acE WD]at hg;have hr:¬(gid<=g/\g<gid+1000):=fun hr=>hU g hr.1 hr.2 (H.used.1 t' g hg);rcases jr H hU hA hz with⟨_,h1⟩|⟨h1,_⟩
  ·grind
  ·unfold γN;rw[acE hr];exact H.grps t' g z ht' hg h1
 ·intro B' n' hB';rw[hlb]at hB';obtain⟨k1,k2,k3,b',y,k4,k5,k6,k7,k8⟩:=H.lblk B' n' hB';by_cases hBB:B'=B
  ·subst hBB;rw[hm]at hB';cases hB';refine⟨k1,k2,k3,b,_,hlam,h5.setRow,h6,h7,fun i hi=>?_⟩;rw[hget,hynew];by_cases hin:off<=i/\i<off+n
   ·grind
   ·rw[acE hin,acE WD];obtain⟨v,a',g1,g2,g3,g4⟩:=h8 i hi;refine⟨v,a',g1,g2,g3,fun g z hg hz=>?_⟩;have hr:¬(gid<=g/\g<gid+1000):=fun hr=>hU g hr.1 hr.2 (H.used.1 _ g hg);rcases jr H hU hA hz with⟨_,h1⟩|⟨h1,_⟩
    all_goals simp_all[γN,acE]
  ·refine⟨k1,k2,k3,b',y,k4,k5.of_eq (hother b' qr),k6,k7,fun i hi=>?_⟩;rw[hget,acE WD];obtain⟨v,a',g1,g2,g3,g4⟩:=k8 i hi;refine⟨v,a',g1,g2,g3,fun g z hg hz=>?_⟩;have hr:¬(gid<=g/\g<gid+1000):=fun hr=>hU g hr.1 hr.2 (H.used.1 _ g hg);rcases jr H hU hA hz with⟨_,h1⟩|⟨h1,_⟩
   all_goals simp_all[γN,acE]
 ·intro g z hg;exact E2 H hU hA (fun _ _=>rfl) (fun k y g' hk hr=>hr.of_eq (hother k (by rw[hk];simp))) hg
 ·intro k hk;exact⟨(H.mine k hk).1,by simpa using(H.mine k hk).2⟩
 ·intro t' g hg;rw[hget]at hg;split at hg
  ·obtain⟨_,_,_,_,_,_,k5⟩:=hent (t'-(B+off)) WD;exact k5 g hg
  ·exact .inl (H.used.1 t' g hg)
 ·intro g z hg;rcases jr H hU hA hg with⟨_,h1⟩|⟨h1,_⟩
  ·exact .inr h1
  ·exact .inl (H.used.2 g z h1)
end
section
variable {c:Entry} {N:Nat} {U:Nat->Prop} {e:Env} {h:Hp} {a:Act} {w:World} {S:az} {β:List bQ} {γ:Nat->Value} {lam:Nat->Option Nat} {ω:Nat->Owner}
omit [Dr]in
theorem Row.inj{b:Nat}{x y:Array Value}(h:Row w b x)(g:Row w b y):x=y:=by
 obtain⟨e1,h1⟩:=h;obtain⟨e2,h2⟩:=g
 grind
theorem FR.storeS(H:FR c N U e h a w S β γ lam ω){m p:Nat}{vs:List Value}(hp:p<N)(hm:bb e.lb B=some m)(hvs:vs.length=m)(hlam:lam B=some b)(hrow:Row w b x)(hcs:be S β cs vs)(hslot:a.tmps.getD p undef= .pointer (some ⟨b,0,none⟩))(u:Ent):
  ∃S' ω',S.le S'/\FR c N U (e.upd none { ent:=u,ls:=[(p,⟨.val (.ip cs),none⟩)],unlb:=some B }) h a (w.setRow b (vs++x.toList.drop vs.length).toArray) S' β γ lam ω':=by
 obtain⟨hB1,hB2,hB3,b',x',h4,h5,h6,h7,h8⟩:=H.lblk B m hm;rw[hlam]at h4;cases h4;cases h5.inj hrow;have hN:=H.tsz.2;have hy:∀i,i<m->(vs++x.toList.drop vs.length).toArray[i]? = vs[i]?:=fun i hi=>by
  grind
 have hle:S.le (S.withRowTo b m (vs++x.toList.drop vs.length).toArray):=fun k o v hv=>by
  grind [az.withRowTo]
 have hSb:∀o v,vs[o]? = some v->S.withRowTo b m (vs++x.toList.drop vs.length).toArray b o=some v:=fun o v hv=>by
  have ho:o<m:=by
   rcases ac9 o vs.length with h|h
   ·omega
   ·grind
  unfold az.withRowTo
  grind
 have hSo:∀k,k≠b->∀o,S.withRowTo b m (vs++x.toList.drop vs.length).toArray k o=S k o:=fun k hk o=>by
  unfold az.withRowTo;rw[acE hk]
 have hωb:∀k,ω k≠.loc B->k≠b:=fun k hk=>qr
 have hother:∀k,ω k≠.loc B->(w.setRow b (vs++x.toList.drop vs.length).toArray).heap[k]? = w.heap[k]?:=fun k hk=>fS w b _ (hωb k hk);have hω:∀k,ω k≠.no->ω k≠.loc B->eJ ω b .no k=ω k:=fun k _ hk=>by unfold eJ;grind
 have hget:∀t',(e.upd none { ent:=u,ls:=[(p,⟨.val (.ip cs),none⟩)],unlb:=some B }).get t'=if p=t' then⟨.val (.ip cs),none⟩else e.get t':=by
  intro t';rw[cO];simp only[reduceCtorEq,acI,ac1,acT,dC];rfl
 have hlb:(e.upd none { ent:=u,ls:=[(p,⟨.val (.ip cs),none⟩)],unlb:=some B }).lb=rC e.lb B:=rfl;have hal:(e.upd none { ent:=u,ls:=[(p,⟨.val (.ip cs),none⟩)],unlb:=some B }).al=e.al:=rfl;refine⟨_,eJ ω b .no,hle,?_,H.gro.trans (Gro.setRow hrow _),fun k hk hE=>?_,az.le_trans H.le hle,H.ext,H.hlen,?_,H.tsz,?_,?_,?_,?_,?_,?_⟩
 ·intro k o v hv;by_cases hk:k=b
  ·subst hk;rw[hrow.setRow.cell];unfold az.withRowTo at hv
   grind
  ·rw[hSo k hk]at hv;rw[cell_of_heap (fS w b _ hk)];exact H.wf k o v hv
 ·have hkb:k≠b:=by
   rintro rfl
   have:=(H.mine k (by rw[h6];simp)).1.low
   rcases this with h|h
   ·exact hE h
   ·omega
  have:=H.keep k hk hE
  grind [fS]
 ·exact H.heap.rows hle (ig.refl β) H.hlen fun l cs' hl _=>.inl ⟨hl,fun k _ ho=>by
   grind⟩
 ·intro t' ht';rw[hget];split
  ·rename_i hpt;subst hpt;rw[hslot];simp only[jp,VR];exact⟨b,0,vs,rfl,hcs.mono hle (ig.refl β),fun j v hj=>qr⟩
  ·have:=H.slots t' ht'
   cases hv:(e.get t').v with
   |val av=>rw[hv]at this;exact VR.mono hle (ig.refl β) _ _ this
   |loc B off=>rw[hv]at this;exact this
 ·intro t' g z ht' hg hz;rw[hget]at hg;split at hg
  ·simp at hg
  ·exact H.grps t' g z ht' hg hz
 ·intro B' n' hB';rw[hlb,Fx]at hB';split at hB'
  ·simp at hB'
  ·rename_i hBB;obtain⟨k1,k2,k3,b',y,k4,k5,k6,k7,k8⟩:=H.lblk B' n' hB';have hk:ω b'≠.loc B:=by rw[k6];simp only[ne_eq,Owner.loc.injEq];exact fun h=>hBB h.symm
   refine⟨k1,k2,k3,b',y,k4,k5.of_eq (hother b' hk),qr,fun o=>qr,fun i hi=>?_⟩;rw[hget,acE WD];obtain⟨v,a',g1,g2,g3,g4⟩:=k8 i hi;exact⟨v,a',g1,g2,VR.mono hle (ig.refl β) _ _ g3,g4⟩
 ·intro g z hg;obtain⟨a',len,cap,g1,g2,g3,g4⟩:=H.free g z hg;refine⟨a',len,cap,g1,g2,g3,g4.imp id ?_⟩;rintro⟨sz,k,off,y,k1,k2,k3,k4,k5,k6⟩;have hk:ω k≠.loc B:=by rw[k5];simp
  exact⟨sz,k,off,y,k1,k2,k3.of_eq (hother k hk),k4,qr,fun o ho=>qr⟩
 ·intro k hk;unfold eJ at hk;split at hk
  ·grind
  ·rename_i hkk;exact⟨(H.mine k hk).1.of_eq (by unfold eJ;rw[acE hkk]),by simpa using(H.mine k hk).2⟩
 ·refine⟨fun t' g hg=>?_,H.used.2⟩;rw[hget]at hg;split at hg
  ·simp at hg
  ·exact H.used.1 t' g hg
theorem FR.newH(H:FR c N U e h a w S β γ lam ω)(x:Array Value)(t:TypeId)(hcs:be S β cs (x.toList.take cs.length))(htag:∀t',fU t' cs->t'=t):
  ∃ω',FR c N U e (h++[cs]) a (w.alloc (.cells x t)) S (β++[(w.heap.size,x.size)]) γ lam ω'/\(β++[(w.heap.size,x.size)])[h.length]? = some (w.heap.size,x.size)/\ig β (β++[(w.heap.size,x.size)]):=by
 have H2:=H.alloc x t;have hext:ig β (β++[(w.heap.size,x.size)]):=fun l b hb=>by
  grind
 have hnew:(β++[(w.heap.size,x.size)])[h.length]? = some (w.heap.size,x.size):=by rw[<- H.hlen];simp
 have hωn:ω w.heap.size= .no:=by
  cases ho:ω w.heap.size with
  |no=>rfl
  |_=>have:=(H.mine w.heap.size (by rw[ho];simp)).2;omega
 have hω:∀b,ω b≠.no->eJ ω w.heap.size (.heap h.length) b=ω b:=fun b hb=>by
  unfold eJ;grind
 refine⟨eJ ω w.heap.size (.heap h.length),⟨H2.wf,H2.gro,H2.keep,H2.le,ig.trans H2.ext hext,by simp[H.hlen],?_,H2.tsz,?_,H2.grps,?_,?_,?_,H2.used⟩,hnew,hext⟩
 ·refine H2.heap.rows (az.le_refl S) hext H2.hlen fun l cs' hl hne=>?_;rcases ac9 l h.length with hlt|hge
  ·grind
  ·rw[adh hge]at hl;have hlz:l=h.length:=by
    rcases adp (l-h.length)with h0|h0
    ·omega
    ·grind
   subst hlz;simp only[aeF,acV,acz]at hl;subst hl;exact .inr ⟨w.heap.size,x,hnew,Row.new w x t,by simp[eJ],hcs.mono (az.le_refl S) hext,fun o=>H.wf.none (acC _) o,fun t' ht'=>⟨x,by grind [heap_alloc_new]⟩⟩
 ·intro t' ht'
  have:=H2.slots t' ht'
  cases hv:(e.get t').v with
  |val av=>rw[hv]at this;exact VR.mono (az.le_refl S) hext _ _ this
  |loc B off=>rw[hv]at this;exact this
 ·intro B n hB;obtain⟨h1,h2,h3,b,y,h4,h5,h6,h7,h8⟩:=H2.lblk B n hB;refine⟨h1,h2,h3,b,y,h4,h5,qr,h7,fun i hi=>?_⟩;obtain⟨v,a',g1,g2,g3,g4⟩:=h8 i hi;exact⟨v,a',g1,g2,VR.mono (az.le_refl S) hext _ _ g3,g4⟩
 ·intro g z hg;obtain⟨a',len,cap,g1,g2,g3,g4⟩:=H2.free g z hg;refine⟨a',len,cap,g1,g2,g3,g4.imp id ?_⟩
  grind
 ·intro b hb;unfold eJ at hb;split at hb
  ·rename_i hbb;subst hbb;exact⟨.inr H.size,AI⟩
  ·rename_i hbb;exact⟨(H2.mine b hb).1.of_eq qr,(H2.mine b hb).2⟩
theorem FR.turnH(H:FR c N U e h a w S β γ lam ω){l:Nat}{cs':List AV}{y:Array Value}(hl:h[l]? = some cs)(hne:cs≠[])(hb:∃n,β[l]? = some (b,n))(hrow:Row w b x)(hys:y.size=x.size)(hcs:be S β cs' (y.toList.take cs'.length))(htag:∀t,fU t cs'->fU t cs):
  FR c N U e (h.set l cs') a (w.setRow b y) S β γ lam ω:=by
 obtain⟨n,hb⟩:=hb;obtain⟨h1,h3,h4,h5⟩:=H.heap.of_row hl hne hb hrow;rw[hb]at h1;cases h1;have h2:=hrow;have hlt:l<h.length:=by
  rcases ac9 l h.length with h'|h'
  ·exact h'
  ·grind
 have hωb:∀k,ω k≠.heap l->k≠b:=fun k hk=>qr
 have hother:∀k,ω k≠.heap l->(w.setRow b y).heap[k]? = w.heap[k]?:=fun k hk=>fS w b _ (hωb k hk);refine⟨Cd H hrow fun o v hv=>qr,H.gro.trans (Gro.setRow hrow _),fun k hk hE=>?_,H.le,H.ext,by simp[H.hlen],?_,H.tsz,H.slots,H.grps,?_,?_,fun k hk=>⟨(H.mine k hk).1,by simpa using(H.mine k hk).2⟩,H.used⟩
 ·have hkb:k≠b:=by
   rintro rfl
   have:=(H.mine k (by rw[h3];simp)).1.low
   rcases this with h|h
   ·exact hE h
   ·omega
  have:=H.keep k hk hE
  grind [fS]
 ·refine H.heap.rows (az.le_refl S) (ig.refl β) H.hlen fun j ds hj hd=>?_;rw[adR]at hj;split at hj
  ·rename_i hlj;subst hlj;simp only[acz]at hj;subst hj;exact .inr ⟨b,y,by rw[hb,hys],hrow.setRow,h3,hcs,h5,fun t ht=>by obtain⟨z,hz⟩:=H.heap.tag hl (htag t ht) hb;exact⟨y,setRow_heap w b z y t _ hz⟩⟩
  grind
 ·intro B n hB;obtain⟨k1,k2,k3,k,z,k4,k5,k6,k7,k8⟩:=H.lblk B n hB;exact⟨k1,k2,k3,k,z,k4,k5.of_eq (hother k (by rw[k6];simp)),k6,k7,k8⟩
 ·intro g z hg;obtain⟨a',len,cap,g1,g2,g3,g4⟩:=H.free g z hg;refine⟨a',len,cap,g1,g2,g3,g4.imp id ?_⟩;rintro⟨sz,k,off,z',k1,k2,k3,k4,k5,k6⟩;exact⟨sz,k,off,z',k1,k2,k3.of_eq (hother k (by rw[k5];simp)),k4,k5,k6⟩
theorem FR.killH(H:FR c N U e h a w S β γ lam ω)(l:Nat):FR c N U e (h.set l []) a w S β γ lam ω:=by
 refine⟨H.wf,H.gro,H.keep,H.le,H.ext,by simp[H.hlen],?_,H.tsz,H.slots,H.grps,H.lblk,H.free,H.mine,H.used⟩;refine H.heap.rows (az.le_refl S) (ig.refl β) H.hlen fun j ds hj hd=>?_
 grind
theorem FR.moveH(H:FR c N U e h a w S β γ lam ω){l:Nat}{cs':List AV}(hl:h[l]? = some cs)(hne:cs≠[])(hb:∃n,β[l]? = some (b,n))(hrow:Row w b x)(hcs:be S β cs' (x.toList.take cs'.length))(htag:∀t,fU t cs'->fU t cs):
  ∃ω',FR c N U e (h.set l []++[cs']) a w S (β++[(b,x.size)]) γ lam ω'/\(β++[(b,x.size)])[h.length]? = some (b,x.size)/\ig β (β++[(b,x.size)]):=by
 obtain⟨n,hb⟩:=hb;obtain⟨h1,h3,h4,h5⟩:=H.heap.of_row hl hne hb hrow;rw[hb]at h1;cases h1;have h2:=hrow;have hlt:l<h.length:=by
  rcases ac9 l h.length with h'|h'
  ·exact h'
  ·grind
 have hext:ig β (β++[(b,x.size)]):=fun l b hb=>by
  grind
 have hnew:(β++[(b,x.size)])[h.length]? = some (b,x.size):=by rw[<- H.hlen];simp
 have hωb:∀k,ω k≠.heap l->k≠b:=fun k hk=>qr
 have hω:∀k,ω k≠.heap l->eJ ω b (.heap h.length) k=ω k:=fun k hk=>by unfold eJ;grind
 refine⟨eJ ω b (.heap h.length),⟨H.wf,H.gro,H.keep,H.le,ig.trans H.ext hext,by simp[H.hlen],?_,H.tsz,?_,H.grps,?_,?_,?_,H.used⟩,hnew,hext⟩
 ·refine H.heap.rows (az.le_refl S) hext H.hlen fun j ds hj hd=>?_;rcases ac9 j h.length with hlj|hge
  ·grind
  ·rw[adh (by simpa using hge)]at hj;have hjz:j=h.length:=by
    rcases adp (j-h.length)with h0|h0
    ·omega
    ·grind
   subst hjz;simp only[aez,aeF,acV,acz]at hj;subst hj;exact .inr ⟨b,x,hnew,hrow,by simp[eJ],hcs.mono (az.le_refl S) hext,h5,fun t ht=>H.heap.tag hl (htag t ht) hb⟩
 ·intro t' ht'
  have:=H.slots t' ht'
  cases hv:(e.get t').v with
  |val av=>rw[hv]at this;exact VR.mono (az.le_refl S) hext _ _ this
  |loc B off=>rw[hv]at this;exact this
 ·intro B n hB;obtain⟨k1,k2,k3,k,z,k4,k5,k6,k7,k8⟩:=H.lblk B n hB;refine⟨k1,k2,k3,k,z,k4,k5,qr,k7,fun i hi=>?_⟩;obtain⟨v,a',g1,g2,g3,g4⟩:=k8 i hi;exact⟨v,a',g1,g2,VR.mono (az.le_refl S) hext _ _ g3,g4⟩
 ·intro g z hg;obtain⟨a',len,cap,g1,g2,g3,g4⟩:=H.free g z hg;refine⟨a',len,cap,g1,g2,g3,g4.imp id ?_⟩
  grind
 ·intro k hk;unfold eJ at hk;split at hk
  ·rename_i hkk;subst hkk;exact⟨(H.mine k (by rw[h3];simp)).1.of_not (fun g=>by unfold eJ;grind),(H.mine k (by rw[h3];simp)).2⟩
  ·rename_i hkk;exact⟨(H.mine k hk).1.of_eq (by unfold eJ;rw[acE hkk]),(H.mine k hk).2⟩
end
section
variable {c:Entry} {N:Nat} {U:Nat->Prop} {e:Env} {h:Hp} {a:Act} {w:World} {S:az} {β:List bQ} {γ:Nat->Value} {lam:Nat->Option Nat} {ω:Nat->Owner}
theorem FR.regrp(H:FR c N U e h a w S β γ lam ω){d:Option Tmp}{r:AV}{v:Value}{gid:Nat}{z:Option Nat}{g0:Option Nat}{w':World}{S':az}{ω':Nat->Owner}(hd:∀t,d=some t->t<N)(hU:∀g,gid<=g->g<gid+1000->¬U g)(hwf:Wf S' w')(hg:Gro w w')(hle:S.le S')(hk:∀k,k<w.heap.size->(∀g,g0=some g->ω k≠.grp g)->w'.heap[k]? = w.heap[k]? /\∀o,S' k o=S k o)(hω:∀k,ω k≠.no->(∀g,g0=some g->ω k≠.grp g)->ω' k=ω k)(hmine:∀b,ω' b≠.no->kb c ω' b/\b<w'.heap.size)(hv:VR S' β r v)(hf:vz S' w' ω' gid z v):
  FR c N (fun g=>U g\/(gid<=g/\g<gid+1000)) (e.upd d { Upd.own r gid z with drop:=g0 }) h (a.put d v) w' S' β (fun g=>if g=gid then v else γ g) lam ω':=by
 have hget:∀t,(e.upd d { Upd.own r gid z with drop:=g0 }).get t=if d=some t then⟨.val r,some gid⟩else e.get t:=fun t=>by rw[cO];rfl
 have hal:(e.upd d { Upd.own r gid z with drop:=g0 }).al=(gid,z):: gK e.al g0:=rfl;have hlb:(e.upd d { Upd.own r gid z with drop:=g0 }).lb=e.lb:=rfl;have hdl:∀B i:Nat,1000<=B->d≠some (B+i):=fun B i hB hh=>by have h1:B+i<N:=hd _ hh;have h2:=H.tsz.2;omega
 have hdrop:∀g y,aQ (gK e.al g0) g=some y->aQ e.al g=some y/\g0≠some g:=by
  intro g y hg;cases g0 with
  |none=>exact⟨hg,AI⟩
  |some k=>
   grind [gK,pR]
 have hne:∀t g,(e.get t).g=some g->g≠gid:=fun t g hg hh=>hU g WD WD (H.used.1 t g hg);have hna:∀g y,aQ e.al g=some y->g≠gid:=fun g y hg hh=>hU g WD WD (H.used.2 g y hg);have halv:∀g y,g≠gid->aQ ((gid,z):: gK e.al g0) g=some y->aQ e.al g=some y/\g0≠some g:=fun g y hg hy=>by
  rw[dp,acE (fun h=>hg h.symm)]at hy
  grind
 have hrow:∀ {b x},Row w b x->(∀g,g0=some g->ω b≠.grp g)->Row w' b x:=fun hr hb=>hr.of_eq (hk _ hr.lt hb).1;have hsz:=hg.size;refine⟨hwf,H.gro.trans hg,fun b hb hE=>?_,az.le_trans H.le hle,H.ext,H.hlen,?_,by rw[kM];exact H.tsz,fun t ht=>?_,fun t g y ht hgg hz=>?_,fun B n hB=>?_,fun g y hg=>?_,hmine,⟨fun t g hgg=>?_,fun g y hg=>?_⟩⟩
 ·have hnb:∀g,g0=some g->ω b≠.grp g:=fun g _ hbg=>by
   have:=(H.mine b (by rw[hbg];simp)).1.low
   grind
  have h1:=hk b (Nat.lt_of_lt_of_le hb H.size) hnb;have h2:=H.keep b hb hE
  grind
 ·exact H.heap.rows hle (ig.refl β) H.hlen fun l cs hl _=>.inl ⟨hl,fun b hb ho=>by
   grind⟩
 ·rw[hget,lg a d v hd H.tsz.1];split
  ·exact hv
  ·have:=H.slots t ht
   cases hv:(e.get t).v with
   |val av=>rw[hv]at this;exact VR.mono hle (ig.refl β) _ _ this
   |loc B off=>rw[hv]at this;exact this
 ·rw[hget]at hgg;rw[hal]at hz;rw[lg a d v hd H.tsz.1];split at hgg
  ·grind
  ·rename_i hdt;have hg:=hne t g hgg;rw[acE hdt,acE hg];exact H.grps t g y ht hgg (halv g y hg hz).1
 ·rw[hlb]at hB;obtain⟨h1,h2,h3,b,x,h4,h5,h6,h7,h8⟩:=H.lblk B n hB;have hnb:∀g,g0=some g->ω b≠.grp g:=fun g _=>by rw[h6];simp
  refine⟨h1,h2,h3,b,x,h4,hrow h5 hnb,qr,fun o=>by rw[(hk b h5.lt hnb).2];exact h7 o,fun i hi=>?_⟩;rw[hget,acE (hdl B i h2)];obtain⟨u,a',g1,g2,g3,g4⟩:=h8 i hi;refine⟨u,a',g1,g2,VR.mono hle (ig.refl β) _ _ g3,fun g y hg hy=>?_⟩
  grind
 ·rw[hal]at hg;by_cases hgg:g=gid
  ·subst hgg;rw[dp,acL rfl]at hg
   grind
  ·simp only[acE hgg];obtain⟨h1,h2⟩:=halv g y hgg hg;obtain⟨a',len,cap,k1,k2,k3,k4⟩:=H.free g y h1;refine⟨a',len,cap,k1,k2,k3,k4.imp id ?_⟩;rintro⟨sz,b,off,x,j1,j2,j3,j4,j5,j6⟩;have hnb:∀g',g0=some g'->ω b≠.grp g':=fun g' hg'=>by
    grind
   exact⟨sz,b,off,x,j1,j2,hrow j3 hnb,j4,qr,fun o ho=>by rw[(hk b j3.lt hnb).2];exact j6 o ho⟩
 ·rw[hget]at hgg;split at hgg
  ·grind
  ·exact .inl (H.used.1 t g hgg)
 ·rw[hal]at hg;by_cases hgg:g=gid
  ·grind
  ·exact .inl (H.used.2 g y (halv g y hgg hg).1)
omit [Dr]in
theorem MF{S:az}{β:List bQ}{es:List AV}{sz sz':Nat}(h:cr S β es b off sz')(hok:dK sz es=true)(hne:es≠[]):sz'=sz:=by
 cases es with
 |nil=>grind
 |cons x es=>
  simp only[cr]at h;simp only[dK,adz,acB]at hok;obtain⟨⟨v,hv,hs,_⟩,_⟩:=h
  have:=(pf hok.1 hv).1
  omega
open Classical in
theorem FR.app(H:FR c N U e h a w S β γ lam ω){d:Option Tmp}{as bs:List AV}{vx v:Value}{w':World}{gid sz:Nat}{g0:Option Nat}{z:Option Nat}(hd:∀t,d=some t->t<N)(hU:∀g,gid<=g->g<gid+1000->¬U g)(hx:VR S β (.sl as) vx)(hoa:dK sz as=true)(hfree:(g0=none/\vx= .slice none 0 0)\/∃g,g0=some g/\vz S w ω g z vx)(hz:z=none\/z=some sz)(happ:Appended S β w sz as bs vx v w'):
  ∃S' ω',FR c N (fun g=>U g\/(gid<=g/\g<gid+1000)) (e.upd d { Upd.own (.sl (as++bs)) gid (some sz)with drop:=g0 }) h (a.put d v) w' S' β (fun g=>if g=gid then v else γ g) lam ω':=by
 cases happ with
 | same hb=>
  subst hb;refine⟨S,fun k=>if ∃g,g0=some g/\ω k= .grp g then .grp gid else ω k,H.regrp hd hU H.wf (Gro.refl _) (az.le_refl S) (fun k _ _=>⟨rfl,fun _=>rfl⟩) ?_ ?_ (by simpa using hx) ?_⟩
  ·grind
  ·intro b hb
   (try simp only at hb)
   split at hb
   ·rename_i hg;obtain⟨g,_,hg⟩:=hg;exact⟨.inr ((H.mine b (by rw[hg];simp)).1.grp hg),(H.mine b (by rw[hg];simp)).2⟩
   ·rename_i hg;exact⟨(H.mine b hb).1.of_eq (acE hg),(H.mine b hb).2⟩
  ·rcases hfree with⟨_,rfl⟩|⟨g,rfl,a',len,cap,h1,h2,h3,h4⟩
   ·exact⟨none,0,0,rfl,acC _,fun _=>rfl,.inl rfl⟩
   ·refine⟨a',len,cap,h1,h2,h3,h4.imp id ?_⟩;rintro⟨sz',b,off,x,g1,g2,g3,g4,g5,g6⟩;have:sz'=sz:=by rcases hz with rfl|rfl<;>simp_all
    subst this;exact⟨sz',b,off,x,rfl,g2,g3,g4,AN,g6⟩
 | place b off cap x cs hv hr hlt hc hb hf=>
  subst hv;rcases hfree with⟨_,hcon⟩|⟨g,rfl,a',len,cap',h1,h2,h3,h4⟩
  ·cases hcon
  ·simp only[Value.slice.injEq]at h1;obtain⟨rfl,rfl,rfl⟩:=h1;have hpos:0<bs.length:=aed.2 hb;rcases h4 with h4|⟨sz',b',off',x',g1,g2,g3,g4,g5,g6⟩
   ·omega
   ·have:sz'=sz:=by rcases hz with rfl|rfl<;>simp_all
    subst this;simp only[acz,Addr.mk.injEq]at g2;obtain⟨rfl,rfl,_⟩:=g2;cases hr.inj g3;have hcl:=hf.1;have hle:(as.length+bs.length)*sz'<=cap*sz':=ac4 _ hlt;rw[Nat.add_mul]at hle;have hynew:∀i,(x.toList.take (off+as.length*sz')++cs++x.toList.drop (off+as.length*sz'+cs.length)).toArray[i]? =
      if off+as.length*sz'<=i/\i<off+as.length*sz'+cs.length then cs[i-(off+as.length*sz')]? else x[i]?:=by
     intro i;have htl:(x.toList.take (off+as.length*sz')).length=off+as.length*sz':=by simp;omega
     simp only[aem];by_cases hi:i<off+as.length*sz'
     ·grind
     ·by_cases hi2:i<off+as.length*sz'+cs.length
      ·grind
      ·rw[adh Bk,ad5,acE WD,ads]
       grind
    generalize hy:(x.toList.take (off+as.length*sz')++cs++x.toList.drop (off+as.length*sz'+cs.length)).toArray=y at hynew
    -- the new stable cells
    refine⟨fun k o=>if k=b/\off+as.length*sz'<=o/\o<off+as.length*sz'+cs.length then cs[o-(off+as.length*sz')]? else S k o,eJ ω b (.grp gid),?_⟩;have hleS:S.le (fun k o=>if k=b/\off+as.length*sz'<=o/\o<off+as.length*sz'+cs.length then cs[o-(off+as.length*sz')]? else S k o):=by
     intro k o v hv
     (try simp only)
     rw[acE]
     ·exact hv
     ·grind
    have hysz:y.size=x.size:=by
     rw[<- hy];simp;omega
    refine H.regrp hd hU (fun k o v hv=>?_) (Gro.setRow hr _) hleS (fun k hk hkg=>?_) (fun k hk hkg=>?_) (fun k hk=>?_) ?_ ?_
    ·(try simp only at hv)
     split at hv
     ·rename_i hc';obtain⟨rfl,h1,h2⟩:=hc';rw[hr.setRow.cell,hynew,acL ⟨h1,h2⟩];exact hv
     ·rename_i hc';by_cases hkb:k=b
      ·subst hkb;have hcell:=H.wf k o v hv;rw[hr.cell]at hcell;rw[hr.setRow.cell,hynew,acE (fun h=>hc' ⟨rfl,h⟩)];exact hcell
      ·rw[cell_of_heap (fS w b y hkb)];exact H.wf k o v hv
    ·have hkb:k≠b:=by rintro rfl;exact hkg g rfl g5
     exact⟨fS w b y hkb,fun o=>qr⟩
    ·unfold eJ
     grind
    ·unfold eJ at hk;split at hk
     ·rename_i hkb;subst hkb
      have:=H.mine k (by rw[g5];simp)
      exact⟨.inr (this.1.grp g5),AN⟩
     ·rename_i hkb
      have:=H.mine k hk
      exact⟨this.1.of_eq (by unfold eJ;rw[acE hkb]),AN⟩
    ·-- the value
     simp only[VR]at hx |-;obtain⟨a2,cap2,he,hc2,hn2,hs2⟩:=hx;simp only[Value.slice.injEq]at he;obtain⟨rfl,_,rfl⟩:=he;refine⟨some ⟨b,off,none⟩,cap,AI,by simpa using hlt,(fun h=>by cases h),fun q hq=>?_⟩;simp only[acz]at hq;subst hq;obtain⟨_,sz2,hel⟩:=hs2 _ rfl;refine⟨fun _=>rfl,sz',?_⟩;have hels:cr S β as b off sz':=by
      by_cases hne:as=[]
      ·subst hne;simp[cr]
      ·grind [MF]
     refine cr.append (cr.mono hleS (ig.refl β) _ _ _ _ hels) (.of_get fun i x' hx'=>?_);obtain⟨v',hv1,hv2,hv3⟩:=hf.2.1 i x' hx';refine⟨v',VR.mono hleS (ig.refl β) _ _ hv1,hv2,fun j u hu=>?_⟩;have hcs:=hv3 j u (by simpa using hu);simp only[aem]at hcs;have hlt':i*sz'+j<cs.length:=by
      rcases ac9 (i*sz'+j) cs.length with h|h
      ·exact h
      ·grind
     (try simp only)
     rw[acL ⟨by trivial,WD,WD⟩];rw[show off+as.length*sz'+i*sz'+j-(off+as.length*sz')=i*sz'+j by omega];exact hcs
    ·refine⟨some ⟨b,off,none⟩,as.length+bs.length,cap,rfl,hlt,(fun h=>by cases h),.inr ⟨sz',b,off,y,rfl,rfl,hr.setRow,qr,by simp[eJ],fun o ho=>?_⟩⟩
     grind
 | fresh x t cap hlt hc hr hb=>
  have H2:=(H.drew).allocS x t ((as++bs).length*sz);have hsz:w.drew.heap.size=w.heap.size:=rfl;have hωn:ω w.heap.size= .no:=by
   cases ho:ω w.heap.size with
   |no=>rfl
   |_=>have:=(H.mine w.heap.size (by rw[ho];simp)).2;omega
  have hle:(as.length+bs.length)*sz<=cap*sz:=ac4 _ hlt;refine⟨S.withRowTo w.heap.size ((as++bs).length*sz) x,eJ ω w.heap.size (.grp gid),H.regrp hd hU H2.wf ((Gro.drew w).trans (Gro.alloc w.drew x t)) ?_ (fun k hk _=>⟨by rw[alloc_old _ _ (by simpa using hk)];rfl,fun o=>?_⟩) (fun k hk _=>?_) (fun k hk=>?_) ?_ ?_⟩
  ·intro k o v hv;unfold az.withRowTo;split
   ·rename_i hk;subst hk;rw[H.wf.none (acC _)]at hv;simp at hv
   ·exact hv
  ·unfold az.withRowTo;grind
  ·unfold eJ
   grind
  ·unfold eJ at hk;split at hk
   ·rename_i hkk;subst hkk;exact⟨.inr H.size,AI⟩
   ·rename_i hkk
    have:=H.mine k hk
    exact⟨this.1.of_eq (by unfold eJ;rw[acE hkk]),by simp;omega⟩
  ·simp only[VR];refine⟨some ⟨w.heap.size,0,none⟩,cap,AI,by simpa using hlt,(fun h=>by cases h),fun q hq=>?_⟩;simp only[acz]at hq;subst hq;refine⟨fun _=>rfl,sz,.of_get fun i x' hx'=>?_⟩;obtain⟨v',hv1,hv2,hv3⟩:=hr i x' hx';have hi:i<(as++bs).length:=by
    rcases ac9 i (as++bs).length with h|h
    ·exact h
    ·grind
   refine⟨v',VR.mono (fun k o v hv=>?_) (ig.refl β) _ _ hv1,hv2,fun j u hu=>?_⟩
   ·unfold az.withRowTo;split
    ·rename_i hk;subst hk;rw[H.wf.none (acC _)]at hv;simp at hv
    ·exact hv
   ·have hj:j<sz:=by
     rcases ac9 j v'.cells.toList.length with h|h
     ·grind
     ·grind
    have hm:(i+1)*sz<=(as++bs).length*sz:=ac4 _ hi;rw[Nat.add_mul]at hm;unfold az.withRowTo
    grind
  ·refine⟨some ⟨w.heap.size,0,none⟩,as.length+bs.length,cap,rfl,hlt,(fun h=>by cases h),.inr ⟨sz,w.heap.size,0,x,rfl,rfl,Row.new w.drew x t,WD,by simp[eJ],fun o ho=>?_⟩⟩;unfold az.withRowTo
   grind
end
def dl(p:Upd->Prop):Act1->Prop
 |.bad=>True
 |.stat u=>p u
 |.dyn _ sh=>∀v,p (sh v)
 |.thr _=>True
omit [Dr]in
theorem dl.cond{p:Upd->Prop}{b:Bool}{x y:Act1}(h1:b=true->dl p x)(h2:b=false->dl p y):dl p (bif b then x else y):=by
 grind
structure Shape (e:Env) (gid:Nat) (f:Foot) (ss:Option Nat) (u:Upd):Prop where
 ls:f.wl=false->u.ls=[]
 lb:f.wl=false->u.lb=none
 unlb:f.wl=false->u.unlb=none
 add:f.wl=false->∀x∈u.add,x.1=gid
 noad:f.ad=false->u.add=[]
 nodr:f.dr=false->u.drop=none
 loc:f.wl=false->∀C off,u.ent.v= .loc C off->∃t off',(e.get t).v= .loc C off'
 keys:∀x∈u.ls,1000<=x.1\/ss=some x.1
section
omit [Dr]
theorem Shape.ofV(e:Env)(gid:Nat)(f:Foot)(ss:Option Nat)(a:AV):Shape e gid f ss (.ofV a):=
 ⟨fun _=>rfl,fun _=>rfl,fun _=>rfl,fun _ x h=>by simp[Upd.ofV]at h,fun _=>rfl,fun _=>rfl,fun _ C off h=>by simp[Upd.ofV]at h,fun x h=>by simp[Upd.ofV]at h⟩
theorem Shape.own(e:Env)(gid:Nat)(f:Foot)(ss:Option Nat)(a:AV)(z:Option Nat)(h:f.ad=true):Shape e gid f ss (.own a gid z):=
 ⟨fun _=>rfl,fun _=>rfl,fun _=>rfl,fun _ x h=>by simp[Upd.own]at h;rw[h],fun h'=>qr,fun _=>rfl,fun _ C off h=>by simp[Upd.own]at h,fun x h=>by simp[Upd.own]at h⟩
theorem Shape.ent(e:Env)(gid:Nat)(f:Foot)(ss:Option Nat)(x:Ent)(h:∀C off,x.v= .loc C off->∃t off',(e.get t).v= .loc C off'):Shape e gid f ss { ent:=x } :=
 ⟨fun _=>rfl,fun _=>rfl,fun _=>rfl,fun _ x h=>by simp at h,fun _=>rfl,fun _=>rfl,fun _ C off h'=>h C off h',fun x h=>by simp at h⟩
theorem Shape.get(e:Env)(gid:Nat)(f:Foot)(ss:Option Nat)(t:Nat):Shape e gid f ss { ent:=e.get t }:=.ent _ _ _ _ _ fun _ off h=>⟨t,off,h⟩
theorem uK{n gid:Nat}(hB:1000<=B):∀x∈lX B cs offs gid n,1000<=x.1:=by
 intro x hx;unfold lX at hx
 grind
theorem E9{gid:Nat}(h:offs.isEmpty=true):uI offs gid=[]:=by
 have:offs=[]:=by simpa using h
 subst this;rfl
end
variable {cx:Cx} {e:Env} {gid:Nat} {o:Oper}
section
omit [Dr]
theorem yP(told:Bool)(x:Operand)(f:Foot)(hf:f.ad=bD x):dl (Shape e gid f none) (mS told e gid x):=by
 unfold mS;split
 ·exact Shape.get ..
 ·cases h:bD x with
  |true=>
   cases told with
   |true=>exact Shape.ofV ..
   |false=>exact Shape.own _ _ _ _ _ _ (by rw[hf,h])
  |false=>exact Shape.ofV ..
theorem Fe{e:Env}{n:Nat}(h:nh e B off n=true):∃m,bb e.lb B=some m/\off+n<=m/\1000<=B:=by
 grind [nh]
theorem KU{e:Env}{n:Nat}(h:nh e B off n=true):∃m,bb e.lb B=some m/\off+n<=m/\1000<=B/\B % 1000=0/\m<=1000:=by
 grind [nh]
theorem sB(d:Option Tmp)(t:TypeId)(p:Nat)(f:Foot):dl (Shape e gid f none) (fR cx e d t p):=by
 unfold fR;split
 ·split
  ·trivial
  ·cases nh e _ _ _ with
   |false=>trivial
   | true=>
    simp only[acD];rename_i ti _;cases ti.agg with
    |true=>exact Shape.ofV ..
    |false=>
     simp only[acO];cases decide (ti.size=1)with
     |true=>exact Shape.get ..
     |false=>trivial
 ·cases bX cx.ann.hl d with
  |true=>exact fun v=>Shape.ofV ..
  |false=>exact fun v=>Shape.ofV ..
theorem Shape.wl{e:Env}{gid:Nat}{f:Foot}{ss:Option Nat}{u:Upd}(hw:f.wl=true)(h1:f.ad=false->u.add=[])(h2:u.drop=none)(h3:∀x∈u.ls,1000<=x.1\/ss=some x.1):Shape e gid f ss u:=
 ⟨fun h=>qr,fun h=>qr,fun h=>qr,fun h=>qr,h1,fun _=>h2,fun h=>qr,h3⟩
theorem Gz(t p:Nat)(y:Operand)(f:Foot)(hw:f.wl=true)(ha:f.ad=(!(gD cx.ann.nils p).isEmpty||bD y)):dl (Shape e gid f (some p)) (iW cx e gid t p y):=by
 unfold iW;split
 ·rename_i B off _;split
  ·trivial
  ·rename_i ti _;cases hlb:nh e B off ti.size with
   |false=>trivial
   | true=>
    obtain⟨m,_,_,hB⟩:=Fe hlb;simp only[acD];cases KW (dw cx.ann.kinds p .L)with
    | true=>
     simp only[acD];cases sS e B off p ti.size with
     |false=>trivial
     |true=>
      simp only[acD];exact fun v=>Shape.wl hw (fun _=>rfl) rfl (fun x hx=>qr)
    | false=>
     simp only[acO];cases ti.agg with
     |true=>
      simp only[acD];refine fun v=>Shape.wl hw (fun h=>?_) rfl (fun x hx=>.inl (uK WD x hx))
      grind [E9]
     | false=>
      simp only[acO];cases decide (ti.size=1)with
      |false=>trivial
      | true=>
       simp only[acD];split
       ·split
        ·exact fun v=>Shape.wl hw (fun _=>rfl) rfl (fun x hx=>qr)
        ·trivial
       ·cases hn:bD y with
        |true=>
         refine Shape.wl hw (fun h=>?_) rfl (fun x hx=>qr)
         grind
        |false=>exact fun v=>Shape.wl hw (fun _=>rfl) rfl (fun x hx=>qr)
 ·exact fun v=>Shape.ofV ..
theorem ES(t p i:Nat)(f:Foot):dl (Shape e gid f none) (l9 cx e t p i):=by
 unfold l9;split
 ·rename_i B off hv;split
  ·trivial
  ·split
   ·trivial
   ·split
    ·trivial
    ·rename_i fi _;cases decide (fi.size=0)with
     |true=>trivial
     |false=>exact Shape.ent _ _ _ _ _ fun C o' h=>⟨p,off,qr⟩
 ·exact fun v=>Shape.ofV ..
theorem Fh(t p:Nat)(i:Operand)(f:Foot):dl (Shape e gid f none) (fI cx e t p i):=by
 unfold fI;split
 ·rename_i B off hv;split
  ·split
   ·split
    ·trivial
    ·refine dl.cond (p:=Shape e gid f none) (y:=.bad) (fun _=>?_) (fun _=>trivial);exact Shape.ent _ _ _ _ _ fun C o' h=>⟨p,off,qr⟩
   ·trivial
  ·trivial
 ·exact fun v=>Shape.ofV ..
theorem Ei(s t:Nat)(f:Foot)(hf:f=(match dw cx.ann.kinds s .L with|.F=>{}|.H=>{ wh:=true }|.B=>{ wh:=true }|_=>{ wl:=true,ad:=!(gD cx.ann.nils s).isEmpty })):dl (Shape e gid f none) (gq cx e gid s t):=by
 unfold gq;split
 ·trivial
 ·rename_i ti _;have key:f.wl=true->(f.ad= !(gD cx.ann.nils s).isEmpty)->dl (Shape e gid f none) (match gD cx.ann.nils s with
   | offs=>bif decide (ti.size<1000)&&aT e.sl (aN s)&&jO (dG true ti) offs ti.size then
     .stat { ent:=⟨.loc (aN s) 0,none⟩,ls:=lX (aN s) (dG (dM cx.ann.hb s) ti) offs gid ti.size,add:=uI offs gid,lb:=some (aN s,ti.size) }else .bad):=by
   intro hw ha;simp only;cases decide (ti.size<1000)&&aT e.sl (aN s)&&jO (dG true ti) (gD cx.ann.nils s) ti.size with
   |false=>trivial
   |true=>exact Shape.wl hw (fun h=>E9 qr) rfl (fun x hx=>.inl (uK (by unfold aN;omega) x hx))
  cases hk:dw cx.ann.kinds s .L with
  |F=>exact Shape.ofV ..
  |H=>exact fun v=>Shape.ofV ..
  |B=>exact fun v=>Shape.ofV ..
  |L=>grind
  |S=>grind
theorem Kj(s t:Nat)(x:Operand)(f:Foot)(hf:f=(match dw cx.ann.kinds s .F with|.F=>{}|.H=>{ wh:=true }|.B=>{ wh:=true }|_=>{ wl:=true })):dl (Shape e gid f none) (qB cx e s t x):=by
 unfold qB;have key:f.wl=true->dl (Shape e gid f none) (match cx.T t with
  |none=>.bad
  | some ti=>bif decide (ti.size<1000)&&aT e.sl (aN s)then
    .dyn (bB ti.size (opnd e x)) fun v=>{ ent:=⟨.loc (aN s) 0,none⟩,ls:=lX (aN s) (ab v) [] 0 ti.size,lb:=some (aN s,ti.size) }
   else .bad):=by
  intro hw;split
  ·trivial
  ·rename_i ti _;cases decide (ti.size<1000)&&aT e.sl (aN s)with
   |false=>trivial
   |true=>exact fun v=>Shape.wl hw (fun _=>rfl) rfl (fun x hx=>.inl (uK (by unfold aN;omega) x hx))
 cases hk:dw cx.ann.kinds s .F with
 |F=>exact Shape.ofV ..
 |H=>exact fun v=>Shape.ofV ..
 |B=>trivial
 |L=>grind
 |S=>grind
theorem Hd(c:Call)(f:Foot)(ho:o.op= .call c)(hf:f=aw cx o):dl (Shape e gid f none) (jg cx e gid o c):=by
 unfold jg;cases hc:c.callee with
 |invoke r m=>trivial
 | value x=>
  cases x with
  | func g=>
   simp only;refine dl.cond (fun _=>dl.cond (fun _ v=>Shape.ofV ..) (fun _=>trivial)) fun _=>?_;split
   ·exact dl.cond (fun _ v=>Shape.ofV ..) (fun _=>trivial)
   intro v;cases ho':cx.own g with
   |none=>exact Shape.ofV ..
   |some z=>
    grind [Shape.own,aw]
  |tmp t=>exact fun v=>Shape.ofV ..
  |const t=>exact fun v=>Shape.ofV ..
  |global t=>exact fun v=>Shape.ofV ..
 | builtin b=>
  cases b<;>simp only<;>(try trivial)
  case clear=>
   split
   ·exact fun v=>Shape.ofV ..
   ·trivial
  case append=>
   split
   ·rename_i t u x y hts hxs;cases lx cx.T u with
    |false=>trivial
    | true =>
     simp only[adb,acO];cases hha:bX cx.ann.ha o.dst with
     |true=>exact fun v=>Shape.ofV ..
     | false=>
      have hfa:f.ad=true/\f.wl=false/\f.dr= !bD x:=by
       rw[hf];unfold aw;rw[ho];simp only[hc,hha,acO,hxs];exact⟨trivial,trivial,trivial⟩
      cases hn:bD x with
      |true=>exact fun v=>Shape.own _ _ _ _ _ _ hfa.1
      | false=>
       simp only[acO];split
       ·split
        ·trivial
        ·split
         ·trivial
         ·rename_i z _;cases DO z (eK cx.T t)with
          |false=>trivial
          |true=>
           simp only[acD];intro v;have hdr:f.dr=true:=by rw[hfa.2.2,hn];rfl
           exact⟨fun _=>rfl,fun _=>rfl,fun _=>rfl,fun _ x h=>by simp[Upd.own]at h;rw[h],fun h'=>qr,fun h'=>qr,fun _ C off h=>by simp[Upd.own]at h,fun x h=>by simp[Upd.own]at h⟩
       ·trivial
   ·trivial
  case len=>
   split
   ·exact fun v=>Shape.ofV ..
   ·trivial
  case min=>exact fun v=>Shape.ofV ..
  case max=>exact fun v=>Shape.ofV ..
theorem Bc(f:Foot)(ss:Option Nat){one:Bool}(A:Act1):dl (Shape e gid f ss) (U7 one A):=by
 cases A with
 |bad=>trivial
 |stat u=>exact fun v=>Shape.ofV ..
 |dyn m sh=>exact fun v=>Shape.ofV ..
 |thr v=>trivial
theorem rf(cx:Cx)(e:Env)(gid:Nat)(o:Oper):dl (Shape e gid (aw cx o) (df o)) (iK cx e gid o):=by
 have hss:(∀t p y,o.op≠.store t (.tmp p) y)->df o=none:=by
  intro h;unfold df;split
  ·grind
  ·rfl
 unfold iK;cases ho:o.op
 case store t x y=>
  simp only;cases x<;>(try trivial);rename_i p;cases hd:o.dst with
  |some d=>trivial
  |none=>
   have h1:df o=some p:=by unfold df;rw[ho]
   rw[h1];refine dl.cond (fun _=>?_) fun hs=>dl.cond (fun _=>trivial) fun _=>Gz t p y _ (by simp_all[aw]) (by simp_all[aw]);unfold BM;split
   ·trivial
   ·exact fun v=>Shape.ofV ..
 all_goals
  have hs0:=hss qr;rw[hs0];simp only
 case move x=>grind [yP,aw]
 case assign x=>grind [yP,aw]
 case box t x=>
  cases hd:o.dst with
  |none=>trivial
  |some s=>grind [Kj,aw]
 case alloc t=>
  cases hd:o.dst with
  |none=>trivial
  |some s=>grind [Ei,aw]
 case load t x=>
  cases x
  case tmp p=>
   simp only;split
   ·split
    ·trivial
    ·exact fun v=>Shape.ofV ..
   ·rename_i hlm;exact dl.cond (fun _=>trivial) (fun _=>dl.cond (fun _=>Bc _ _ _) (fun _=>sB ..))
  all_goals first|exact dl.cond (fun _=>trivial) (fun _=>dl.cond (fun _=>Bc _ _ _) (fun _=>sB ..))|exact fun v=>Shape.ofV ..|trivial
 case buildSlice=>
  cases hha:bX cx.ann.ha o.dst with
  |true=>exact fun v=>Shape.ofV ..
  |false=>
   intro v;cases hno:bX cx.ann.no o.dst with
   |true=>exact Shape.ofV ..
   |false=>grind [Shape.own,aw]
 case makeSlice=>
  cases hha:bX cx.ann.ha o.dst with
  |true=>exact fun v=>Shape.ofV ..
  |false=>exact fun v=>Shape.own _ _ _ _ _ _ (by unfold aw;grind)
 case slice t x lo hi mx=>
  cases hso:bX cx.ann.so o.dst with
  | true=>
   simp only[acD];unfold tV;have hf:aw cx o= { ad:=true,dr:=true }:=by unfold aw;rw[ho];simp only[hso,acD]
   rw[hf];split
   ·split
    ·trivial
    ·split
     ·exact dl.cond (fun _ v=>⟨fun _=>rfl,fun _=>rfl,fun _=>rfl,fun _ x h=>by simp[Upd.own]at h;rw[h],fun h'=>(by cases h'),fun h'=>(by cases h'),fun _ C off h=>by simp[Upd.own]at h,fun x h=>by simp[Upd.own]at h⟩) fun _=>trivial
     ·trivial
   ·trivial
  |false=>
  simp only[acO];cases mx with
  |none=>exact fun v=>Shape.ofV ..
  |some m=>exact fun v=>Shape.own _ _ _ _ _ _ (by simp_all[aw])
 case nilCheck x=>
  cases x<;>(try trivial);simp only;split
  ·exact Shape.get ..
  ·exact fun v=>Shape.ofV ..
 case fieldAddr t x i=>cases x<;>first|exact ES ..|trivial
 case indexAddr t x i=>cases x<;>first|exact Fh ..|exact fun v=>Shape.ofV ..|trivial
 case call c=>exact Hd c _ ho rfl
 case panic x=>exact fun v=>Shape.ofV ..
 case makeFunc=>exact Shape.ofV ..
 case makeMap=>exact dl.cond (fun _=>trivial) fun _ v=>Shape.ofV ..
 case mapUpdate=>unfold qC;split;exact fun v=>Shape.ofV ..;trivial
 case insert=>unfold qC;split;exact fun v=>Shape.ofV ..;trivial
 case binOp=>exact dl.cond (fun _=>trivial) fun _ v=>Shape.ofV ..
 all_goals first|trivial|exact fun v=>Shape.ofV ..
end
end Go.Av
namespace Go.Av
variable [Dr]
def WV(o:Oper)(e e':Env):Prop:=((∀t,1000<=t->e'.get t=e.get t)/\∀B,bb e'.lb B=bb e.lb B)\/
 ∃t p,o.op= .load t (.tmp p)/\∀B off,(e.get p).v= .loc B off->bb e'.lb B=bb e.lb B/\(1000<=B->B % 1000=0->∀k,k<1000->e'.get (B+k)=e.get (B+k))
structure Agree (cx:Cx) (o:Oper) (e e':Env):Prop where
 ops:∀t∈jh o,e'.get t=e.get t
 loc:((aw cx o).rl||(aw cx o).wl)=true->WV o e e'
 al:(aw cx o).dr=true->∀g,aQ e'.al g=aQ e.al g
 lf:(aw cx o).wl=true->∀s,o.dst=some s->aT e.sl (aN s)=true->aT e'.sl (aN s)=true
variable {t:TypeId}
section
variable {cx:Cx} {e e':Env} {gid:Nat} {o:Oper}
section
omit [Dr]
theorem Agree.get(A:Agree cx o e e'){t:Nat}(h:Operand.tmp t∈o.op.operands.toList):e'.get t=e.get t:=
 A.ops t (aeM.2 ⟨.tmp t,h,rfl⟩)
theorem Agree.opnd(A:Agree cx o e e'){x:Operand}(h:x∈o.op.operands.toList):opnd e' x=opnd e x:=by
 cases x with
 |tmp t=>simp only[Av.opnd,Env.av];rw[A.get h]
 |const v=>rfl
 |func f=>rfl
 |global g=>rfl
theorem Agree.opnds(A:Agree cx o e e'){l:List Operand}(h:∀x∈l,x∈o.op.operands.toList):l.map (Av.opnd e')=l.map (Av.opnd e):=
 ad0 fun x hx=>A.opnd (h x hx)
theorem Agree.parts(A:Agree cx o e e'){l:List (Nat×Operand)}(h:∀x∈l,x.2∈o.op.operands.toList):l.map (fun p=>(p.1,Av.opnd e' p.2))=l.map (fun p=>(p.1,Av.opnd e p.2)):=
 ad0 fun x hx=>by rw[A.opnd (h x hx)]
theorem wd(h:∀t,1000<=t->e'.get t=e.get t){B:Nat}(hB:1000<=B):∀n,pE e' B n=pE e B n
 |0=>rfl
 |n+1=>by
  simp only[pE,Env.av];rw[wd h hB n,h (B+n) WD]
theorem tz{B off:Nat}(h:∀k,k<1000->e'.get (B+k)=e.get (B+k)):∀n,off+n<=1000->pE e' (B+off) n=pE e (B+off) n
 |0,_=>rfl
 |n+1,hn=>by
  simp only[pE,Env.av];rw[tz h n WD,Nat.add_assoc,h (off+n) WD]
theorem Fc{B:Nat}(h:bb e'.lb B=bb e.lb B)(off n:Nat):nh e' B off n=nh e B off n:=by
 unfold nh;rw[h]
theorem yB(h:∀B,bb e'.lb B=bb e.lb B)(B off n:Nat):nh e' B off n=nh e B off n:=by
 unfold nh;rw[h]
theorem D3(h:∀B,bb e'.lb B=bb e.lb B)(B off p n:Nat):sS e' B off p n=sS e B off p n:=by
 unfold sS;rw[h]
theorem yO{told:Bool}{x:Operand}(A:Agree cx o e e')(h:x∈o.op.operands.toList):mS told e' gid x=mS told e gid x:=by
 unfold mS;cases x with
 |tmp t=>simp only;rw[A.get h]
 |_=>rfl
theorem HS{d:Option Tmp}{p:Nat}(A:Agree cx o e e')(hp:Operand.tmp p∈o.op.operands.toList)(hf:(aw cx o).rl=true\/mO (e.get p)=false):fR cx e' d t p=fR cx e d t p:=by
 unfold fR;rw[A.get hp];cases hv:(e.get p).v with
 |val a=>rfl
 | loc B off=>
  replace hf:(aw cx o).rl=true:=hf.elim id fun h=>by simp[mO,hv]at h
  simp only;cases cx.T t with
  |none=>rfl
  | some ti=>
   rcases A.loc (by rw[hf];rfl)with⟨h1,h2⟩|⟨t',p',ho,h3⟩
   ·simp only;rw[yB h2];cases hlb:nh e B off ti.size with
    |false=>rfl
    |true=>
     grind [Fe,wd]
   ·have hpp:p=p':=by rw[ho]at hp;simpa [Op.operands]using hp
    subst hpp;obtain⟨h4,h5⟩:=h3 B off hv;simp only;rw[Fc h4];cases hlb:nh e B off ti.size with
    |false=>rfl
    |true=>
     obtain⟨m,_,hm,hB,hB0,hm0⟩:=KU hlb;rw[tz (h5 hB hB0) _ WD]
     grind
theorem Gx{p:Nat}{y:Operand}(A:Agree cx o e e')(hp:Operand.tmp p∈o.op.operands.toList)(hy:y∈o.op.operands.toList)(hf:(aw cx o).wl=true):iW cx e' gid t p y=iW cx e gid t p y:=by
 unfold iW;rw[A.get hp,A.opnd hy];obtain⟨h1,h2⟩:(∀t,1000<=t->e'.get t=e.get t)/\∀B,bb e'.lb B=bb e.lb B:=(A.loc (by rw[hf];simp)).elim id fun⟨t,p,ho,_⟩=>by
  grind [aw]
 cases hv:(e.get p).v with
 |val a=>rfl
 | loc B off=>
  simp only;cases cx.T t with
  |none=>rfl
  |some ti=>
   simp only;rw[yB h2,D3 h2];cases y with
   |tmp s=>simp only;rw[A.get hy]
   |_=>rfl
theorem ER{p i:Nat}(A:Agree cx o e e')(hp:Operand.tmp p∈o.op.operands.toList):l9 cx e' t p i=l9 cx e t p i:=by
 unfold l9;rw[A.get hp]
theorem Fg{p:Nat}{i:Operand}(A:Agree cx o e e')(hp:Operand.tmp p∈o.op.operands.toList)(hi:i∈o.op.operands.toList):fI cx e' t p i=fI cx e t p i:=by
 unfold fI;rw[A.get hp,A.opnd hi]
theorem Eh{s:Nat}(A:Agree cx o e e')(hs:o.dst=some s)(hf:dw cx.ann.kinds s .L≠.F->dw cx.ann.kinds s .L≠.H->dw cx.ann.kinds s .L≠.B->(aw cx o).wl=true)(hb:gq cx e gid s t≠.bad):gq cx e' gid s t=gq cx e gid s t:=by
 unfold gq at hb |-;cases ht:cx.T t with
 |none=>rfl
 | some ti=>
  rw[ht]at hb;simp only at hb |-;cases hk:dw cx.ann.kinds s .L<;>rw[hk]at hb hf<;>simp only at hb |-
  all_goals
   have hw:=hf AI AI AI;cases hl:aT e.sl (aN s)with
   |false=>grind
   |true=>rw[A.lf hw s hs hl]
theorem Ki{s:Nat}{x:Operand}(A:Agree cx o e e')(hs:o.dst=some s)(hx:x∈o.op.operands.toList)(hf:dw cx.ann.kinds s .F≠.F->dw cx.ann.kinds s .F≠.H->dw cx.ann.kinds s .F≠.B->(aw cx o).wl=true)(hb:qB cx e s t x≠.bad):qB cx e' s t x=qB cx e s t x:=by
 unfold qB at hb |-;rw[A.opnd hx];cases hk:dw cx.ann.kinds s .F<;>rw[hk]at hb hf<;>simp only at hb |-
 all_goals
  cases ht:cx.T t with
  |none=>rfl
  |some ti=>
   rw[ht]at hb;simp only at hb |-;have hw:=hf AI AI AI;cases hl:aT e.sl (aN s)with
   |false=>grind
   |true=>rw[A.lf hw s hs hl]
theorem Hb{c:Call}(A:Agree cx o e e')(ho:o.op= .call c):jg cx e' gid o c=jg cx e gid o c:=by
 have hargs:∀x∈c.args.toList,x∈o.op.operands.toList:=fun x hx=>by
  grind [Op.operands,Call.operands]
 have hT:∀b:Bool,c.args.toList.map (rI b e')=c.args.toList.map (rI b e):=fun b=>by
  refine ad0 fun x hx=>?_;unfold rI yX;rw[A.opnd (hargs x hx)]
 unfold jg;rw[A.opnds hargs,hT];cases hc:c.callee with
 |invoke r m=>rfl
 |value f=>
  have hf:f∈o.op.operands.toList:=by rw[ho];simp[Op.operands,Call.operands,hc]
  cases f with
  |func g=>rfl
  |_=>simp only;rw[A.opnd hf]
 | builtin b=>
  cases b<;>simp only
  case clear=>
   split
   ·rename_i t ts x xs hts hxs;rw[A.opnd (hargs x (by rw[hxs];simp))]
   ·rfl
  case len=>
   split
   ·rename_i t ts x xs hts hxs;rw[A.opnd (hargs x (by rw[hxs];simp))]
   ·rfl
  case append=>
   split
   ·rename_i t u x y hts hxs;have hx:=hargs x (by rw[hxs];simp);rw[A.opnd hx,A.opnd (hargs y (by rw[hxs];simp))];cases lx cx.T u with
    |false=>rfl
    | true=>
     simp only[adb,acO];cases hha:bX cx.ann.ha o.dst with
     | true=>
      have hns:iV e' x=iV e x:=by
       cases x with
       | tmp s=>
        have hdr:(aw cx o).dr=true:=by
         unfold aw;rw[ho];simp only[hc,hha,acD]
        unfold iV;simp only;rw[A.get hx];cases (e.get s).g with
        |none=>rfl
        |some g=>simp only;rw[A.al hdr]
       |_=>rfl
      grind
     | false=>
      simp only[acO];cases hn:bD x with
      |true=>rfl
      | false=>
       simp only[acO];cases x with
       | tmp s=>
        simp only;rw[A.get hx];have hdr:(aw cx o).dr=true:=by
         unfold aw;rw[ho];simp only[hc,hha,acO,hxs,hn];rfl
        cases (e.get s).g with
        |none=>rfl
        |some g=>simp only;rw[A.al hdr]
       |_=>rfl
   ·rfl
theorem Lh(A:Agree cx o e e')(hb:iK cx e gid o≠.bad):iK cx e' gid o=iK cx e gid o:=by
 have hm:∀ {x:Operand},x∈o.op.operands.toList->opnd e' x=opnd e x:=fun h=>A.opnd h;unfold iK at hb |-;cases ho:o.op<;>rw[ho]at hb hm<;>simp only[Op.operands]at hm hb |-
 case move x=>grind [yO,Op.operands]
 case assign x=>grind [yO,Op.operands]
 case pick k x y=>grind
 case box t x=>
  cases hd:o.dst with
  |none=>rfl
  |some s=>
   rw[hd]at hb;exact Ki A hd (by rw[ho];simp[Op.operands]) (fun h1 h2 h3=>by unfold aw;grind) hb
 case alloc t=>
  cases hd:o.dst with
  |none=>rfl
  |some s=>
   rw[hd]at hb;exact Eh A hd (fun h1 h2 h3=>by unfold aw;grind) hb
 case load t x=>
  cases x with
  | tmp p=>
   simp only;rw[A.get (t:=p) (by rw[ho];simp[Op.operands])];cases hlm:kR cx.ann.lm o.dst with
   |some x=>rfl
   |none=>
   cases hnl:bX cx.ann.nl o.dst&&mO (e.get p)with
   |true=>rfl
   |false=>
    grind [HS,Op.operands,aw]
  |_=>rfl
 case store t x y=>
  cases x with
  | tmp p=>
   cases hd:o.dst with
   |some d=>rfl
   | none=>
    simp only;cases hs:zt cx p with
    |true=>
     simp only[acD];unfold BM;rw[A.get (t:=p) (by rw[ho];simp[Op.operands]),A.opnd (x:=y) (by rw[ho];simp[Op.operands])]
    |false=>
     simp only[acO];rw[A.get (t:=p) (by rw[ho];simp[Op.operands]),Gx A (by rw[ho];simp[Op.operands]) (by rw[ho];simp[Op.operands]) (by simp_all[aw])]
  |_=>rfl
 case build t ps=>rw[A.parts (l:=ps.toList) (fun p hp=>by grind [Op.operands])]
 case buildSlice t n ps=>rw[A.parts (l:=ps.toList) (fun p hp=>by grind [Op.operands])]
 case nilCheck x=>
  cases x with
  |tmp p=>simp only;rw[A.get (by rw[ho];simp[Op.operands])]
  |_=>rfl
 case binOp op t x y u=>
  grind [yX]
 case unOp op t x=>grind
 case convert s t x=>grind
 case makeInterface t x=>grind
 case makeFunc f x y=>
  rw[A.opnds (l:=x.toList) (fun z hz=>by grind [Op.operands]),A.opnds (l:=y.toList) (fun z hz=>by grind [Op.operands])]
 case makeSlice t x y=>grind
 case slice t x lo hi mx=>
  have h1:∀z:Option Operand,(∀y,z=some y->y∈o.op.operands.toList)->z.map (opnd e')=z.map (opnd e):=by
   intro z hz;cases z with
   |none=>rfl
   |some y=>simp only[adv];rw[A.opnd (hz y rfl)]
  have hcut:tV cx e' gid t x lo hi mx=tV cx e gid t x lo hi mx\/bX cx.ann.so o.dst=false:=by
   cases hso:bX cx.ann.so o.dst with
   |false=>exact .inr rfl
   | true=>
    refine .inl ?_;unfold tV;cases x with
    |tmp s=>
     have hdr:(aw cx o).dr=true:=by unfold aw;rw[ho];simp only[hso,acD]
     simp only[A.get (t:=s) (by rw[ho];simp[Op.operands]),A.al hdr,hm (x:=.tmp s) AI,h1 lo (fun y hy=>by rw[ho];simp[Op.operands,hy])]
    |_=>rfl
  grind
 case fieldAddr t x i=>
  grind [ER,Op.operands]
 case indexAddr t x i=>
  grind [Fg,Op.operands]
 case field t x f=>grind
 case index t x i=>grind
 case extract x i=>grind
 case lookup t x i ok=>grind
 case mapUpdate t m k x=>simp_all[qC]
 case insert t m k x=>simp_all[qC]
 all_goals grind [Hb]
end
end
def cQ(β:List bQ)(h:Hp)(b:Nat):Prop:=∃(l:Nat)(cs:List AV)(n:Nat),h[l]? = some cs/\cs≠[]/\β[l]? = some (b,n)
def dm(S:az)(β:List bQ)(w:World)(h:Hp):Prop:=β.length=h.length/\∃ω,ge S β w ω h
def xg(S:az)(β:List bQ)(h:Hp)(w:World):Prop:=GOKw w/\(∀b,b<gN->¬cQ β h b)/\WC S
structure Left (E:Nat->Prop) (S:az) (β:List bQ) (w:World) (S':az) (β':List bQ) (w':World) (h':Hp):Prop where
 le:S.le S'
 ext:ig β β'
 wf:Wf S' w'
 gro:Gro w w'
 keep:∀b,b<w.heap.size->¬E b->w'.heap[b]? = w.heap[b]? /\∀o,S' b o=S b o
 heap:dm S' β' w' h'
 owned:∀b,cQ β' h' b->E b\/w.heap.size<=b
variable {h':Hp}
theorem Left.size{E:Nat->Prop}{S:az}{β:List bQ}{w:World}{S':az}{β':List bQ}{w':World}(L:Left E S β w S' β' w' h'):w.heap.size<=w'.heap.size:=L.gro.size
def Ck(n0:Nat)(S':az)(β':List bQ)(w':World)(h':Hp)(sz:Nat)(v:Value):Prop:=
 ∃a len cap,v= .slice a len cap/\len<=cap/\(a=none->cap=0)/\(len=cap\/∃b off x,a=some ⟨b,off,none⟩/\Row w' b x/\off+cap*sz<=x.size/\n0<=b/\¬cQ β' h' b/\
  ∀o,off+len*sz<=o->S' b o=none)
def eS(own:Option Nat)(S:az)(β:List bQ)(h:Hp)(w:World)(r:R AV)(en:Ending)(w':World):Prop:=
 match r with
 |.ok rv h'=>∃S' β' v,en= .returned v/\VR S' β' rv v/\Left (cQ β h) S β w S' β' w' h'/\∀sz,own=some sz->Ck w.heap.size S' β' w' h' sz v
 |.pan pv h'=>∃S' β' v,en= .panicked [{ v,recovered:=false }]/\VR S' β' pv v/\Left (cQ β h) S β w S' β' w' h'
 |.fail=>False
def eh(P:Program)(own:FuncId->Option Nat)(call:FuncId->List AV->M AV):Prop:=
 ∀(f:FuncId)(args:List AV)(h:Hp)(S:az)(β:List bQ)(w:World)(vs:List Value),call f args h≠.fail->xg S β h w->Wf S w->dm S β w h->be S β args vs->
  Calls P f vs.toArray w (eS (own f) S β h w (call f args h))/\(P.funcs[f]?).any (fun fn=>fn.body.isSome&&!(fn.name== "runtime.NumGoroutine"))=true
section
variable {c:Entry} {N:Nat} {U:Nat->Prop} {e:Env} {h:Hp} {a:Act} {w:World} {S:az} {β:List bQ} {γ:Nat->Value} {lam:Nat->Option Nat} {ω:Nat->Owner}
theorem FR.hown(H:FR c N U e h a w S β γ lam ω){b:Nat}(hb:cQ β h b):∃l n,ω b= .heap l/\b<w.heap.size/\β[l]? = some (b,n)/\∀o,S b o=none:=by
 obtain⟨l,cs,n,h1,h2,h3⟩:=hb;obtain⟨b',x,k1,k2,k3,k5⟩:=H.heap.own h1 h2
 grind
theorem FR.heapX(H:FR c N U e h a w S β γ lam ω):dm S β w h:=⟨H.hlen,ω,H.heap⟩
open Classical in
theorem FR.left(H:FR c N U e h a w S β γ lam ω){S':az}{β':List bQ}{w':World}(L:Left (cQ β h) S β w S' β' w' h'):
  ∃ω',FR c N U e h' a w' S' β' γ lam ω'/\(∀b,w.heap.size<=b->¬cQ β' h' b->ω' b= .no):=by
 obtain⟨hlen,ω2,hh⟩:=L.heap;have hnb:∀b,ω b≠.no->(∀l,ω b≠.heap l)->¬cQ β h b/\¬cQ β' h' b/\b<w.heap.size:=by
  intro b hb hl;have hlt:=(H.mine b hb).2;have h1:¬cQ β h b:=fun ho=>by obtain⟨l,_,h3,_⟩:=H.hown ho;exact hl l h3
  refine⟨h1,fun ho=>?_,hlt⟩;rcases L.owned b ho with h2|h2
  ·exact h1 h2
  ·omega
 let ω':Nat->Owner:=fun b=>if cQ β' h' b then ω2 b else match ω b with|.heap _=>.no|o=>o
 have hω':∀b,ω b≠.no->(∀l,ω b≠.heap l)->ω' b=ω b:=by
  intro b hb hl;obtain⟨_,h2,_⟩:=hnb b hb hl;show (if cQ β' h' b then ω2 b else _)=_;rw[acE h2];cases ho:ω b<;>first|rfl|grind
 have hrow:∀ {b x},Row w b x->ω b≠.no->(∀l,ω b≠.heap l)->Row w' b x/\∀o,S' b o=S b o:=by
  intro b x hr hb hl;obtain⟨h1,_,h3⟩:=hnb b hb hl;exact⟨hr.of_eq (L.keep b h3 h1).1,(L.keep b h3 h1).2⟩
 refine⟨ω',⟨L.wf,H.gro.trans L.gro,fun b hb hE=>?_,az.le_trans H.le L.le,ig.trans H.ext L.ext,hlen,?_,H.tsz,?_,H.grps,?_,?_,?_,H.used⟩,?_⟩
 ·have h1:¬cQ β h b:=fun ho=>by
   obtain⟨l,_,h3,_⟩:=H.hown ho;rcases (H.mine b (by rw[h3];simp)).1.low with h|h
   all_goals grind
  have h2:=L.keep b (Nat.lt_of_lt_of_le hb H.size) h1;have h3:=H.keep b hb hE
  grind
 ·intro l cs hl hne;have hown:∀b n,β'[l]? = some (b,n)->ω2 b= .heap l->ω' b= .heap l:=fun b n h1 h3=>by
   show (if cQ β' h' b then ω2 b else _)=_;rw[acL ⟨l,cs,_,hl,hne,h1⟩];exact h3
  rcases hh l cs hl hne with⟨b,x,h1,h2,h3,h4⟩|⟨b,h1,h3,h4⟩
  all_goals grind
 ·intro t ht
  have:=H.slots t ht
  cases hv:(e.get t).v with
  |val av=>rw[hv]at this;exact VR.mono L.le L.ext _ _ this
  |loc B off=>rw[hv]at this;exact this
 ·intro B n hB;obtain⟨k1,k2,k3,b,x,k4,k5,k6,k7,k8⟩:=H.lblk B n hB;have hr:=hrow k5 (by rw[k6];simp) (by rw[k6];simp);refine⟨k1,k2,k3,b,x,k4,hr.1,qr,fun o=>qr,fun i hi=>?_⟩;obtain⟨v,a',g1,g2,g3,g4⟩:=k8 i hi;exact⟨v,a',g1,g2,VR.mono L.le L.ext _ _ g3,g4⟩
 ·intro g z hg;obtain⟨a',len,cap,g1,g2,g3,g4⟩:=H.free g z hg;refine⟨a',len,cap,g1,g2,g3,g4.imp id ?_⟩
  grind
 ·intro b hb;by_cases ho:cQ β' h' b
  ·have hlt:b<w'.heap.size/\∃l,ω2 b= .heap l:=by
    obtain⟨l,cs,n,h1,h2,h3⟩:=ho;obtain⟨b',x,k1,k2,k3,_⟩:=hh.own h1 h2;rw[h3]at k1;cases k1;exact⟨k2,l,k3⟩
   obtain⟨hlt,l2,hl2⟩:=hlt;refine⟨?_,hlt⟩;rcases L.owned b ho with h1|h1
   ·obtain⟨l,_,h3,_⟩:=H.hown h1;refine (H.mine b (by rw[h3];simp)).1.of_not fun g=>?_
    grind
   ·exact .inr (adi H.size h1)
  ·have hb':(match ω b with|.heap _=>.no|o=>o)≠Owner.no:=by
    have:ω' b=(match ω b with|.heap _=>.no|o=>o):=by
     show (if cQ β' h' b then ω2 b else _)=_;rw[acE ho]
    rw[<- this];exact hb
   have:ω b≠.no:=by
    intro hn;rw[hn]at hb';exact hb' rfl
   exact⟨(H.mine b this).1.of_eq (hω' b this fun l hl=>qr),Nat.lt_of_lt_of_le (H.mine b this).2 L.size⟩
 grind
end
theorem FR.gok{c:Entry}{N:Nat}{U:Nat->Prop}{e:Env}{h:Hp}{a:Act}{w:World}{S:az}{β:List bQ}{γ:Nat->Value}{lam:Nat->Option Nat}{ω:Nat->Owner}(H:FR c N U e h a w S β γ lam ω):xg S β h w:=
 ⟨H.gokw,fun b hb ho=>by
  obtain⟨l,_,h3,_⟩:=H.hown ho;rcases (H.mine b (by rw[h3];simp)).1.low with h|h
  ·exact c.gok.2.1 b hb h
  ·have:=c.gok.1.lt;omega,c.gok.2.2.mono H.le⟩
def Out(c:Entry)(h':Hp)(w':World)(S':az)(β':List bQ):Prop:=Left c.E c.S c.β c.w S' β' w' h'
theorem FR.out{c:Entry}{N:Nat}{U:Nat->Prop}{e:Env}{h:Hp}{a:Act}{w:World}{S:az}{β:List bQ}{γ:Nat->Value}{lam:Nat->Option Nat}{ω:Nat->Owner}(H:FR c N U e h a w S β γ lam ω):Out c h w S β:=
 ⟨H.le,H.ext,H.wf,H.gro,H.keep,H.heapX,fun b hb=>by
  obtain⟨l,_,h3,_⟩:=H.hown hb;exact (H.mine b (by rw[h3];simp)).1.low⟩
def gz(c:Entry)(N:Nat)(U:Nat->Prop)(e:Env)(h:Hp)(a:Act)(w:World):Prop:=∃S β γ lam ω,FR c N U e h a w S β γ lam ω
def UG(U:Nat->Prop)(gid:Nat):Nat->Prop:=fun g=>U g\/(gid<=g/\g<gid+1000)
theorem FR.wider{c:Entry}{N:Nat}{U V:Nat->Prop}{e:Env}{h:Hp}{a:Act}{w:World}{S:az}{β:List bQ}{γ:Nat->Value}{lam:Nat->Option Nat}{ω:Nat->Owner}(H:FR c N U e h a w S β γ lam ω)(hUV:∀g,U g->V g):FR c N V e h a w S β γ lam ω:=
 ⟨H.wf,H.gro,H.keep,H.le,H.ext,H.hlen,H.heap,H.tsz,H.slots,H.grps,H.lblk,H.free,H.mine,⟨fun t g hg=>hUV g (H.used.1 t g hg),fun g z hg=>hUV g (H.used.2 g z hg)⟩⟩
theorem gz.wider{c:Entry}{N:Nat}{U V:Nat->Prop}{e:Env}{h:Hp}{a:Act}{w:World}(H:gz c N U e h a w)(hUV:∀g,U g->V g):gz c N V e h a w:=
 let ⟨S,β,γ,lam,ω,F⟩:=H;⟨S,β,γ,lam,ω,F.wider hUV⟩
def rO(c:Entry)(pv:AV)(h':Hp)(v:Value)(w':World):Prop:=∃S' β',Out c h' w' S' β'/\VR S' β' pv v
def After(P:Program)(c:Entry)(N:Nat)(U:Nat->Prop)(r:R Env)(o:Oper)(a:Act)(w:World):Prop:=
 ∀(next:Act->World->Prop)(Q:Exit->Act->World->Prop),(∀e' h' a' w',r= .ok e' h'->gz c N U e' h' a' w'->a'.defers=a.defers->next a' w')->
  (∀pv h' v w',r= .pan pv h'->rO c pv h' v w'->Q (.panic [{ v,recovered:=false }]) a w')->o.wp P a w next Q
omit [Dr]in
theorem put_defers(a:Act)(d:Option Tmp)(v:Value):(a.put d v).defers=a.defers:=by cases d<;>rfl
theorem After.val{P:Program}{c:Entry}{N:Nat}{U:Nat->Prop}{e':Env}{o:Oper}{a:Act}{w w':World}{v:Value}(hrun:(execOp a.eval o).run P w= .ok (.value v) w')(H:gz c N U e' h' (a.put o.dst v) w'):After P c N U (.ok e' h') o a w:=by
 intro next Q hn _
 unfold Oper.wp;rw[hrun];exact hn e' h' _ _ rfl H (put_defers a o.dst v)
theorem After.skip{P:Program}{c:Entry}{N:Nat}{U:Nat->Prop}{e':Env}{o:Oper}{a:Act}{w w':World}(hd:o.dst=none)(hrun:(execOp a.eval o).run P w= .ok .skip w')(H:gz c N U e' h' a w'):After P c N U (.ok e' h') o a w:=by
 intro next Q hn _
 unfold Oper.wp;rw[hrun];have:a.put o.dst undef=a:=by rw[hd];rfl
 simp only[Oper.upon]
 grind
end Go.Av
