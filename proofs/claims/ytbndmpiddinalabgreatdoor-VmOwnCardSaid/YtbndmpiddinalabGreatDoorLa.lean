/- The abstract evaluator and plain laws, part 1. Condition: the table of types is the program's. -/
import Derived.Calls
import Derived.Lib.Space
import Derived.WalkKit
set_option linter.defProp false
set_option linter.unusedSimpArgs false
set_option linter.unusedVariables false
namespace Go
theorem ZS{P:Prop}(h:P:=by omega):P:=h
theorem ZT{P:Prop}(h:P:=by decide):P:=h
theorem ZU{P:Prop}(h:P:=by grind):P:=h
theorem ZV{P:Prop}(h:P:=by simp):P:=h
theorem ZW{P:Prop}(h:P:=by simp_all):P:=h
theorem ZX{P:Prop}(h:P:=by simp;omega):P:=h
abbrev Xq:=@Option.some.injEq
abbrev Xr:=@if_neg
abbrev Xs:=@Bool.false_eq_true
abbrev Xt:=@decide_eq_true_eq
abbrev Xu:=@Bool.and_eq_true
abbrev Xv:=@if_pos
abbrev Xw:=@cond_true
abbrev Xx:=@getElem!_pos
abbrev Xy:=@if_false
abbrev Xz:=@Nat.le_refl
abbrev XA:=@List.getElem?_eq_some_iff
abbrev XB:=@Nat.mul_le_mul_right
abbrev XC:=@Int.toNat_natCast
abbrev XD:=@cond_false
abbrev XE:=@List.getElem?_eq_getElem
abbrev XF:=@if_true
abbrev XG:=@List.getElem_mem
abbrev XH:=@List.eq_nil_of_length_eq_zero
abbrev XI:=@Nat.zero_add
abbrev XJ:=@List.all_eq_true
abbrev XK:=@List.drop_zero
abbrev XL:=@List.length_append
abbrev XM:=@Nat.le_trans
abbrev XN:=@Nat.zero_le
abbrev XO:=@decide_eq_false
abbrev XP:=@List.all_cons
abbrev XQ:=@List.drop_succ_cons
abbrev XR:=@Bool.not_true
abbrev XS:=@List.append_nil
abbrev XT:=@Nat.lt_or_ge
abbrev XU:=@decide_eq_true
abbrev XV:=@List.getElem?_set_self
abbrev XW:=@Bool.not_eq_true'
abbrev XX:=@List.length_cons
abbrev XY:=@decide_true
abbrev XZ:=@List.getElem?_append_right
abbrev X0:=@beq_self_eq_true
abbrev X1:=@List.nil_append
abbrev X2:=@decide_eq_false_iff_not
abbrev X3:=@Bool.not_false
abbrev X4:=@congrArg
abbrev X7:=@List.mem_cons
abbrev X8:=@List.mem_of_getElem?
abbrev X9:=@Option.some.inj
abbrev Ya:=@List.mem_append
abbrev Yb:=@List.getElem?_cons_succ
abbrev Yc:=@Nat.eq_zero_or_pos
abbrev Yd:=@beq_iff_eq
abbrev Ye:=@List.append_assoc
abbrev Yf:=@List.map_cons
abbrev Yg:=@List.getD_eq_getElem?_getD
abbrev Yh:=@Array.length_toList
abbrev Yi:=@List.length_nil
abbrev Yj:=@Bool.or_eq_true
abbrev Yk:=@List.cons_append
abbrev Yl:=@List.take_zero
abbrev Ym:=@Prod.mk.injEq
abbrev Yn:=@Bool.and_self
abbrev Yo:=@List.mem_singleton
abbrev Yp:=@List.length_pos_iff
abbrev Yq:=@List.take_succ_cons
abbrev Yr:=@decide_eq_decide
abbrev Ys:=@Option.map_eq_some_iff
abbrev Yt:=@Array.getD_eq_getD_getElem?
abbrev Yu:=@Bool.false_and
abbrev Yv:=@List.getElem?_append_left
abbrev Yw:=@Bool.true_and
abbrev Yx:=@List.getElem?_set
abbrev Yy:=@List.length_map
abbrev Yz:=@Bool.and_true
abbrev YA:=@Bool.eq_false_iff
abbrev YB:=@List.flatMap_cons
abbrev YC:=@Option.map_some
abbrev YD:=@Bool.eq_iff_iff
abbrev YE:=@List.take_of_length_le
abbrev YF:=@Array.getElem?_eq_some_iff
abbrev YG:=@Bool.and_false
abbrev YH:=@Bool.or_eq_false_iff
abbrev YI:=@List.getElem?_map
abbrev YJ:=@List.ext_getElem?
abbrev YK:=@List.drop_append_of_le_length
abbrev YL:=@List.map_congr_left
abbrev YM:=@Option.getD_some
abbrev YN:=@List.getElem?_drop
abbrev YO:=@decide_false
abbrev YP:=@List.mem_map
abbrev YQ:=@Bool.and_eq_false_iff
abbrev YR:=@List.length_set
abbrev YS:=@List.mem_cons_of_mem
abbrev YT:=@List.mem_of_mem_drop
abbrev YU:=@List.length_take
abbrev YV:=@List.getElem_of_mem
abbrev YW:=@beq_eq_false_iff_ne
abbrev YX:=@List.getElem?_take
abbrev YY:=@List.all_append
abbrev YZ:=@congrFun
abbrev Y0:=@List.take_append_of_le_length
abbrev Y1:=@List.find?_append
abbrev Y2:=@Nat.add_zero
abbrev Y3:=@Bool.or_self
abbrev Y4:=@List.getElem?_toArray
abbrev Y5:=@Nat.sub_zero
abbrev Y6:=@List.dropLast_concat_getLast
abbrev Y7:=@Array.getElem?_eq_getElem
abbrev Y8:=@List.map_append
abbrev Y9:=@Nat.sub_self
abbrev Za:=@List.mem_filterMap
abbrev Zb:=@Option.isSome_none
abbrev Zc:=@Nat.lt_of_le_of_lt
abbrev Zd:=@List.take_take
abbrev Ze:=@Nat.add_sub_cancel_left
abbrev Zf:=@List.take_append
abbrev Zg:=@Option.bind_some
abbrev Zh:=@List.take_length
abbrev Zi:=@Array.getElem?_toList
abbrev Zj:=@List.length_replicate
abbrev Zk:=@List.mem_iff_getElem?
abbrev Zl:=@List.sizeOf_lt_of_mem
abbrev Zm:=@Array.ext'
abbrev Zn:=@List.range_eq_range'
abbrev Zo:=@Nat.zero_mul
abbrev Zp:=@List.getElem?_modify
abbrev Zq:=@List.all_nil
abbrev Zr:=@decide_not
abbrev Zs:=@Int.le_refl
abbrev Zt:=@Nat.le_succ
abbrev Zu:=@Bool.not_eq_false'
abbrev Zv:=@List.set_cons_zero
abbrev Zw:=@List.set_cons_succ
abbrev Zx:=@Option.isSome_some
abbrev Zy:=@List.find?_eq_none
abbrev Zz:=@Array.toList_push
abbrev ZA:=@List.nodup_append
abbrev ZB:=@List.isEmpty_cons
abbrev ZC:=@Array.mapM_eq_mapM_toList
abbrev ZD:=@List.mem_or_eq_of_mem_set
abbrev ZE:=@and_self
abbrev ZF:=@List.map_map
abbrev ZG:=@List.map_nil
abbrev ZH:=@Bool.not_eq_true
abbrev ZI:=@Bool.true_or
abbrev ZJ:=@List.getElem_map
abbrev ZK:=@List.flatMap_nil
abbrev ZL:=@List.length_drop
abbrev ZM:=@List.getElem?_replicate
abbrev ZN:=@Nat.le_mul_of_pos_right
abbrev ZO:=@Option.bind_eq_some_iff
abbrev ZP:=@List.cons.injEq
abbrev ZQ:=@List.find?_cons
abbrev ZR:=@Int.lt_irrefl
end Go
namespace Go.Av
inductive AV where
 |any
 |bool (b:Bool)
 |int (k:IntKind) (n:Int)
 |str (s:List UInt8)
 |nilp|nilf|nili
 |agg (cs:List AV)
 |tup (vs:List AV)
 |sl (es:List AV)
 |ip (cs:List AV)
 |hp (l off:Nat)
 |hs (l off len sz:Nat) (ag:Bool)
 |hn
 |fn (f:Fn) (first captured:List AV)
 |iface (t:TypeId) (v:AV)
 |mp (l:Nat)
 |nilm
 |nilb (t:Nat)
 |byt (t:Nat) (n:Int)
 |it (l:Nat)
 |he
 deriving Inhabited
abbrev cE:=Nat×Nat
abbrev aD:=Nat->Nat->Option Value
def gC(S:aD)(b off:Nat)(vs:List Value):Prop:=∀(j:Nat)(v:Value),vs[j]? = some v->S b (off+j)=some v
mutual
def VR(S:aD)(β:List cE):AV->Value->Prop
 |.any,_=>True
 |.bool b,v=>v= .bool b
 |.int k n,v=>v= .int k n
 |.str s,v=>∃x:ByteArray,v= .string x/\x.data.toList=s
 |.nilp,v=>v= .pointer none
 |.nilf,v=>v= .nilFunc
 |.nili,v=>v= .nilIface
 |.agg cs,v=>∃vs:List Value,v= .agg vs.toArray/\bB S β cs vs
 |.tup cs,v=>∃vs:List Value,v= .tuple vs.toArray/\bB S β cs vs
 | .sl es,v=>∃a cap,v= .slice a es.length cap/\es.length<=cap/\
   (a=none->cap=0)/\∀q,a=some q->(0<cap->q.spot=none)/\∃sz,cJ S β es q.block q.off sz
 |.ip cs,v=>∃b off vs,v= .pointer (some ⟨b,off,none⟩)/\bB S β cs vs/\gC S b off vs
 |.hp l off,v=>∃b:cE,β[l]? = some b/\b.2≠0/\v= .pointer (some ⟨b.1,off,none⟩)
 |.hs l off len sz _,v=>(∃(b:cE)(cap:Nat),β[l]? = some b/\b.2≠0/\v= .slice (some ⟨b.1,off,none⟩) len cap/\len<=cap/\off+cap*sz<=b.2)\/(len=0/\∃q,v= .slice (some q) 0 0)
 |.hn,v=>v= .slice none 0 0
 |.fn f a c,v=>∃x y:List Value,v= .func f x.toArray y.toArray/\bB S β a x/\bB S β c y
 |.iface t a,v=>∃x,v= .iface t x/\VR S β a x
 |.mp l,v=>∃b:cE,β[l]? = some b/\b.2=0/\v= .map (some b.1)
 |.nilm,v=>v= .map none
 |.nilb _,v=>v= .pointer none
 |.byt _ n,v=>v= .int .u8 n
 |.it l,v=>∃b:cE,β[l]? = some b/\b.2=0/\v= .pointer (some ⟨b.1,0,none⟩)
 |.he,v=>∃a,v= .slice a 0 0
def bB(S:aD)(β:List cE):List AV->List Value->Prop
 |[],vs=>vs=[]
 |c:: cs,vs=>∃x xs,vs=x:: xs/\VR S β c x/\bB S β cs xs
def cJ(S:aD)(β:List cE):List AV->Nat->Nat->Nat->Prop
 |[],_,_,_=>True
 |e:: es,b,off,sz=>(∃v,VR S β e v/\v.cells.size=sz/\gC S b off v.cells.toList)/\cJ S β es b (off+sz) sz
end
def aa:AV->List AV
 |.agg cs=>cs
 |.any=>[]
 |x=>[x]
def dA:AV->Option Nat
 |.any=>none
 |.agg cs=>some cs.length
 |_=>some 1
def aD.le(S S':aD):Prop:=∀b o v,S b o=some v->S' b o=some v
def aD.le_refl(S:aD):S.le S:=fun _ _ _ h=>h
def aD.le_trans{S T U:aD}(h:S.le T)(g:T.le U):S.le U:=fun b o v x=>g b o v (h b o v x)
theorem gC.mono{S S':aD}(h:S.le S'){b off:Nat}{vs:List Value}(c:gC S b off vs):gC S' b off vs:=
 fun j v x=>h _ _ _ (c j v x)
def il(β β':List cE):Prop:=∀(l:Nat)(b:cE),β[l]? = some b->β'[l]? = some b
def il.refl(β:List cE):il β β:=fun _ _ h=>h
def il.nil(β:List cE):il [] β:=fun l b h=>by simp at h
def il.trans{a b c:List cE}(h:il a b)(g:il b c):il a c:=fun l x y=>g l x (h l x y)
mutual
theorem VR.mono{S S':aD}{β β':List cE}(h:S.le S')(g:il β β'):(a:AV)->(v:Value)->VR S β a v->VR S' β' a v
 |.any,_,_=>by simp[VR]
 |.bool _,_,x=>by simpa [VR]using x
 |.int _ _,_,x=>by simpa [VR]using x
 |.str _,_,x=>by simpa [VR]using x
 |.nilp,_,x=>by simpa [VR]using x
 |.nilf,_,x=>by simpa [VR]using x
 |.nili,_,x=>by simpa [VR]using x
 |.agg cs,v,x=>by
  simp only[VR]at x |-;obtain⟨vs,rfl,y⟩:=x;exact⟨vs,rfl,bB.mono h g cs vs y⟩
 |.tup cs,v,x=>by
  simp only[VR]at x |-;obtain⟨vs,rfl,y⟩:=x;exact⟨vs,rfl,bB.mono h g cs vs y⟩
 |.sl es,v,x=>by
  simp only[VR]at x |-;obtain⟨a,cap,rfl,hc,hn,hq⟩:=x;refine⟨a,cap,rfl,hc,hn,fun q e=>?_⟩;obtain⟨hs,sz,he⟩:=hq q e;exact⟨hs,sz,cJ.mono h g es _ _ _ he⟩
 |.ip cs,v,x=>by
  simp only[VR]at x |-;obtain⟨b,off,vs,rfl,y,z⟩:=x;exact⟨b,off,vs,rfl,bB.mono h g cs vs y,z.mono h⟩
 |.hp l off,v,x=>by
  simp only[VR]at x |-;obtain⟨b,hb,h0,rfl⟩:=x;exact⟨b,g l b hb,h0,rfl⟩
 |.hn,_,x=>by simpa [VR]using x
 |.hs l off len _ _,v,x=>by
  simp only[VR]at x |-;rcases x with⟨b,cap,hb,h0,rfl,hc,hs⟩|x
  ·exact .inl ⟨b,cap,g l b hb,h0,rfl,hc,hs⟩
  ·exact .inr x
 |.fn f a c,v,x=>by
  simp only[VR]at x |-;obtain⟨x,y,rfl,hx,hy⟩:=x;exact⟨x,y,rfl,bB.mono h g a x hx,bB.mono h g c y hy⟩
 |.iface t a,v,x=>by
  simp only[VR]at x |-;obtain⟨y,rfl,hy⟩:=x;exact⟨y,rfl,VR.mono h g a y hy⟩
 |.mp l,v,x=>by
  simp only[VR]at x |-;obtain⟨b,hb,h0,rfl⟩:=x;exact⟨b,g l b hb,h0,rfl⟩
 |.nilm,_,x=>by simpa [VR]using x
 |.nilb _,_,x=>by simpa [VR]using x
 |.byt _ _,_,x=>by simpa [VR]using x
 |.it l,v,x=>by
  simp only[VR]at x |-;obtain⟨b,hb,h0,rfl⟩:=x;exact⟨b,g l b hb,h0,rfl⟩
 |.he,_,x=>by simpa [VR]using x
theorem bB.mono{S S':aD}{β β':List cE}(h:S.le S')(g:il β β'):(cs:List AV)->(vs:List Value)->bB S β cs vs->bB S' β' cs vs
 |[],_,x=>by simpa [bB]using x
 |c:: cs,vs,x=>by
  simp only[bB]at x |-;obtain⟨y,ys,rfl,hy,hys⟩:=x;exact⟨y,ys,rfl,VR.mono h g c y hy,bB.mono h g cs ys hys⟩
theorem cJ.mono{S S':aD}{β β':List cE}(h:S.le S')(g:il β β'):(es:List AV)->(b off sz:Nat)->cJ S β es b off sz->cJ S' β' es b off sz
 |[],_,_,_,_=>by simp[cJ]
 |e:: es,b,off,sz,x=>by
  simp only[cJ]at x |-;obtain⟨⟨v,hv,hs,hc⟩,hes⟩:=x;exact⟨⟨v,VR.mono h g e v hv,hs,hc.mono h⟩,cJ.mono h g es b (off+sz) sz hes⟩
end
theorem bB.length{S:aD}{β:List cE}:{cs:List AV} ->{vs:List Value} ->bB S β cs vs->vs.length=cs.length
 |[],_,h=>by simp[bB]at h;simp[h]
 |c:: cs,vs,h=>by
  simp only[bB]at h;obtain⟨y,ys,rfl,_,hys⟩:=h;simp[bB.length hys]
theorem bB.get{S:aD}{β:List cE}:{cs:List AV} ->{vs:List Value} ->bB S β cs vs->∀ {i:Nat} {c:AV},cs[i]? = some c->∃v,vs[i]? = some v/\VR S β c v
 |[],_,_,i,c,h=>by simp at h
 |c:: cs,vs,h,i,d,hd=>by
  simp only[bB]at h;obtain⟨y,ys,rfl,hy,hys⟩:=h;cases i with
  |zero=>grind
  |succ i=>simpa using bB.get hys (by simpa using hd)
theorem bB.of_get{S:aD}{β:List cE}:{cs:List AV} ->{vs:List Value} ->vs.length=cs.length->
  (∀(i:Nat)(c:AV)(v:Value),cs[i]? = some c->vs[i]? = some v->VR S β c v)->bB S β cs vs
 |[],vs,h,_=>by simp[bB];simpa using h
 |c:: cs,[],h,_=>by simp at h
 |c:: cs,v:: vs,h,g=>by
  simp only[bB];exact⟨v,vs,rfl,g 0 c v ZV ZV,bB.of_get (by simpa using h) fun i c' v' h1 h2=>g (i+1) c' v' (by simpa using h1) (by simpa using h2)⟩
def bB.drop{S:aD}{β:List cE}{cs:List AV}{vs:List Value}(h:bB S β cs vs)(n:Nat):bB S β (cs.drop n) (vs.drop n):=by
 refine .of_get (by simp[h.length]) fun i c v hc hv=>?_;rw[YN]at hc hv;obtain⟨v',hv',hr⟩:=h.get hc
 grind
def bB.take{S:aD}{β:List cE}{cs:List AV}{vs:List Value}(h:bB S β cs vs)(n:Nat):bB S β (cs.take n) (vs.take n):=by
 refine .of_get (by simp[h.length]) fun i c v hc hv=>?_;rw[YX]at hc hv;split at hc
 ·rename_i hlt;rw[Xv hlt]at hv;obtain⟨v',hv',hr⟩:=h.get hc
  grind
 ·simp at hc
def bB.append{S:aD}{β:List cE}{cs ds:List AV}{vs ws:List Value}(h:bB S β cs vs)(g:bB S β ds ws):bB S β (cs++ds) (vs++ws):=by
 induction cs generalizing vs with
 |nil=>simp[bB]at h;grind
 |cons c cs ih=>
  simp only[bB,Yk]at h|-
  grind
theorem VR.cells{S:aD}{β:List cE}{a:AV}{v:Value}(h:VR S β a v){n:Nat}(hn:dA a=some n):v.cells.size=n/\bB S β (aa a) v.cells.toList/\(aa a).length=n:=by
 cases a<;>simp only[dA,Xq,reduceCtorEq]at hn<;>subst hn<;>simp only[VR]at h<;>simp only[aa,bB,VR]
 case agg cs=>
  obtain⟨vs,rfl,hv⟩:=h;simp[Value.cells,hv,hv.length]
 case bool=>subst h;simp[Value.cells]
 case hn=>subst h;simp[Value.cells]
 case int=>subst h;simp[Value.cells]
 case nilp=>subst h;simp[Value.cells]
 case nilf=>subst h;simp[Value.cells]
 case nili=>subst h;simp[Value.cells]
 case str=>obtain⟨x,rfl,hx⟩:=h;simp[Value.cells,hx]
 case tup=>obtain⟨x,rfl,hx⟩:=h;simp[Value.cells,hx]
 case hp=>obtain⟨b,hb,h0,rfl⟩:=h;exact⟨by simp[Value.cells],⟨_,_,rfl,⟨b,hb,h0,rfl⟩,rfl⟩,rfl⟩
 case mp=>obtain⟨b,hb,h0,rfl⟩:=h;exact⟨by simp[Value.cells],⟨_,_,rfl,⟨b,hb,h0,rfl⟩,rfl⟩,rfl⟩
 case it=>obtain⟨b,hb,h0,rfl⟩:=h;exact⟨by simp[Value.cells],⟨_,_,rfl,⟨b,hb,h0,rfl⟩,rfl⟩,rfl⟩
 case he=>obtain⟨a,rfl⟩:=h;exact⟨by simp[Value.cells],⟨_,_,rfl,⟨a,rfl⟩,rfl⟩,rfl⟩
 case nilm=>subst h;simp[Value.cells]
 case nilb=>subst h;simp[Value.cells]
 case byt=>subst h;simp[Value.cells]
 case hs=>
  rcases h with⟨b,c,hb,h0,rfl,hc⟩|⟨h0,q,rfl⟩
  ·exact⟨by simp[Value.cells],⟨_,_,rfl,.inl ⟨b,c,hb,h0,rfl,hc⟩,rfl⟩,rfl⟩
  ·exact⟨by simp[Value.cells],⟨_,_,rfl,.inr ⟨h0,q,rfl⟩,rfl⟩,rfl⟩
 case iface=>obtain⟨x,rfl,hx⟩:=h;simp[Value.cells,hx]
 case fn=>obtain⟨x,y,rfl,hx,hy⟩:=h;exact⟨by simp[Value.cells],⟨_,_,rfl,⟨x,y,rfl,hx,hy⟩,rfl⟩,rfl⟩
 case ip=>obtain⟨b,o,vs,rfl,hx,hc⟩:=h;exact⟨by simp[Value.cells],⟨_,_,rfl,⟨b,o,vs,rfl,hx,hc⟩,rfl⟩,rfl⟩
 case sl=>obtain⟨x,c,rfl,h1,h2,h3⟩:=h;exact⟨by simp[Value.cells],⟨_,_,rfl,⟨x,c,rfl,h1,h2,h3⟩,rfl⟩,rfl⟩
def VR.acells{S:aD}{β:List cE}{a:AV}{v:Value}(h:VR S β a v):∃vs:List Value,bB S β (aa a) vs/\∀(j:Nat)(x:Value),vs[j]? = some x->v.cells.toList[j]? = some x:=by
 cases hs:dA a with
 |some n=>exact⟨_,(h.cells hs).2.1,fun _ _ h=>h⟩
 |none=>
  cases a<;>simp[dA]at hs;simp_all[Av.aa,bB]
theorem cJ.get{S:aD}{β:List cE}{sz b:Nat}:{es:List AV} ->{off:Nat} ->cJ S β es b off sz->∀ {i:Nat} {e:AV},es[i]? = some e->
  ∃v,VR S β e v/\v.cells.size=sz/\gC S b (off+i*sz) v.cells.toList
 |[],_,_,i,e,h=>by simp at h
 | d:: es,off,h,i,e,he=>by
  simp only[cJ]at h;obtain⟨⟨v,hv,hs,hc⟩,hes⟩:=h;cases i with
  |zero=>grind
  |succ i=>
   obtain⟨v',hv',hs',hc'⟩:=cJ.get hes (i:=i) (by simpa using he)
   grind
theorem cJ.of_get{S:aD}{β:List cE}{sz b:Nat}:{es:List AV} ->{off:Nat} ->
  (∀i e,es[i]? = some e->∃v,VR S β e v/\v.cells.size=sz/\gC S b (off+i*sz) v.cells.toList)->cJ S β es b off sz
 |[],_,_=>by simp[cJ]
 |d:: es,off,h=>by
  simp only[cJ];refine⟨by simpa using h 0 d ZV,.of_get fun i e he=>?_⟩;obtain⟨v',hv',hs',hc'⟩:=h (i+1) e (by simpa using he)
  grind
def cJ.drop{S:aD}{β:List cE}{es:List AV}{b off sz:Nat}(h:cJ S β es b off sz)(n:Nat):cJ S β (es.drop n) b (off+n*sz) sz:=by
 refine .of_get fun i e he=>?_;rw[YN]at he;obtain⟨v,h1,h2,h3⟩:=h.get he
 grind
def cJ.take{S:aD}{β:List cE}{es:List AV}{b off sz:Nat}(h:cJ S β es b off sz)(n:Nat):cJ S β (es.take n) b off sz:=by
 refine .of_get fun i e he=>?_;rw[YX]at he;split at he
 ·exact h.get he
 ·simp at he
def cJ.append{S:aD}{β:List cE}{es fs:List AV}{b off sz:Nat}(h:cJ S β es b off sz)(g:cJ S β fs b (off+es.length*sz) sz):cJ S β (es++fs) b off sz:=by
 refine .of_get fun i e he=>?_;rw[List.getElem?_append]at he;split at he
 ·exact h.get he
 ·rename_i hlt;obtain⟨v,h1,h2,h3⟩:=g.get he;refine⟨v,h1,h2,?_⟩;rw[show off+i*sz=off+es.length*sz+(i-es.length)*sz by rw[Nat.sub_mul];have:=XB sz (Nat.le_of_not_lt hlt);omega];exact h3
def VR.hs_some{S:aD}{β:List cE}{l off len sz:Nat}{ag:Bool}{v:Value}(h:VR S β (.hs l off len sz ag) v):∃q cap,v= .slice (some q) len cap/\len<=cap:=by
 grind [VR]
def VR.hs_pos{S:aD}{β:List cE}{l off len sz:Nat}{ag:Bool}{v:Value}(h:VR S β (.hs l off len sz ag) v)(h0:0<len):∃(b:cE)(cap:Nat),β[l]? = some b/\b.2≠0/\v= .slice (some ⟨b.1,off,none⟩) len cap/\len<=cap/\off+cap*sz<=b.2:=by
 grind [VR]
abbrev Hp:=List (List AV)
inductive R (α:Type) where
 |ok (a:α) (h:Hp)
 |pan (v:AV) (h:Hp)
 |fail
def M(α:Type):=Hp->R α
def ao{α:Type}(a:α):M α:=fun h=>.ok a h
def au{α β:Type}(m:M α)(f:α->M β):M β:=fun h=>
 match m h with
 |.ok a h'=>f a h'
 |.pan v h'=>.pan v h'
 |.fail=>.fail
def gU{α:Type}:M α:=fun _=>.fail
def bP{α:Type}(o:Option α):M α:=fun h=>match o with|some a=>.ok a h|none=>.fail
def jY{α:Type}(v:AV):M α:=fun h=>.pan v h
def aC{α:Type}(c:AV)(x y:M α):M α:=match c with
 |.bool true=>x
 |.bool false=>y
 |_=>gU
def jn{α:Type}(k:List AV->M α)(m:(List AV->M α)->M α):M α:=m k
def aK(c:AV)(want:Bool)(n:Nat)(m:M (List AV)):M (List AV):=match c with
 |.bool b=>bif b== want then m else ao (List.replicate n (.tup []))
 |.tup []=>ao (List.replicate n (.tup []))
 |_=>gU
def dh{α:Type}:Nat->((List AV->M α)->List AV->M α)->List AV->M α
 |0,_,_=>gU
 |n+1,F,vs=>F (dh n F) vs
def ab(l:List AV)(i:Nat):AV:=l.getD i .any
theorem aj{α β:Type}(a:α)(f:α->M β):au (ao a) f=f a:=rfl
theorem ae{α β:Type}(a:α)(f:α->M β):au (bP (some a)) f=f a:=rfl
theorem Gv{α β:Type}(f:α->M β):au (gU) f=gU:=rfl
theorem EG{α β:Type}(v:AV)(f:α->M β):au (jY v) f=jY v:=rfl
theorem jr{α β γ:Type}(m:M α)(f:α->M β)(g:β->M γ):au (au m f) g=au m fun a=>au (f a) g:=by
 funext h;simp only[au];grind
def kG{α:Type}(m:M α):au m ao=m:=by
 funext h;simp only[au];cases hm:m h<;>rfl
def gN:Nat:=4
def vq:List (List UInt8):=[[61,61],[59],[44],[61],[60],[43],[45],[42],[46],[33],[40],[41],[123],[125]]
structure GOKw (w:World):Prop where
 signs:∃t fr,w.heap[0]? = some (.cells (vq.map fun s=>Value.string ⟨s.toArray⟩).toArray t fr)
 asc:∃t fr,w.heap[1]? = some (.cells (Lib.asciiSpaceTab.map fun z=>Value.int .u8 z).toArray t fr)
 max:∃m,w.cell? ⟨3,0,none⟩=some (.int .i64 m)
theorem GOKw.mono{w w':World}(hk:∀b,b<gN->w'.heap[b]? = w.heap[b]?)(h:GOKw w):GOKw w':=by
 have hc:∀b,b<gN->∀o,w'.cell? ⟨b,o,none⟩=w.cell? ⟨b,o,none⟩:=fun b hb o=>by simp[World.cell?,hk b hb]
 exact⟨by rw[hk 0 ZT];exact h.signs,by rw[hk 1 ZT];exact h.asc,by rw[hc 3 ZT];exact h.max⟩
def GOKw.lt{w:World}(h:GOKw w):gN<=w.heap.size:=by
 obtain⟨m,hc⟩:=h.max;rcases XT 3 w.heap.size with hl|hl
 ·exact hl
 grind [World.cell?]
def Ai:Nat->Option (List AV):=fun g=>match g with
 |0=>some (vq.map AV.str)
 |_=>none
theorem Bo(S:aD):∀l:List (List UInt8),bB S [] (l.map AV.str) (l.map fun s=>Value.string ⟨s.toArray⟩)
 |[]=>by simp[bB]
 |s:: l=>by
  simp only[Yf,bB,VR];exact⟨_,_,rfl,⟨_,rfl,ZV⟩,Bo S l⟩
def Kz{w:World}(h:GOKw w):∀g cs,Ai g=some cs->∃vs,bB (fun b o=>w.cell? ⟨b,o,none⟩) [] cs vs/\gC (fun b o=>w.cell? ⟨b,o,none⟩) g 0 vs:=by
 intro g cs hg;unfold Ai at hg;split at hg
 ·obtain rfl:=(X9 hg).symm;obtain⟨t,fr,hw⟩:=h.signs;refine⟨_,Bo _ vq,fun j v hj=>?_⟩;simp_all[World.cell?]
 ·cases hg
inductive TK where
 |other|bool|int (k:IntKind)|str|slice (elem:Nat)|struct|array (len elem:Nat)|iface|ptr|func|map (key elem:Nat)
structure TI where
 agg:Bool
 size:Nat
 bytes:Nat
 kind:TK
 offs:List (Nat×Nat×Bool):=[]
 zero:List AV:=[]
 eqok:Bool:=false
abbrev TT:=Nat->Option TI
def Dm:Value->AV
 |.bool b=>.bool b
 |.int k n=>.int k n
 |.string s=>.str s.data.toList
 |.pointer none=>.nilp
 |.slice none 0 0=>.sl []
 |.nilFunc=>.nilf
 |.nilIface=>.nili
 |.map none=>.nilm
 |_=>.any
def cA:Value->AV
 |.agg cs=>.agg (cs.toList.map Dm)
 |.tuple vs=>bif vs.isEmpty then .tup []else .any
 |v=>Dm v
def sy(ti:TI)(cs:List AV)(off:Nat):Option AV:=
 bif ti.agg then some (.agg ((cs.drop off).take ti.size))else cs[off]?
mutual
def qR(T:TT):Nat->Nat->AV->AV->Option Bool
 |0,_,_,_=>none
 | d+1,t,x,y=>match T t with
  |none=>none
  |some ti=>match ti.kind,x,y with
   |.bool,.bool a,.bool b=>some (a== b)
   |.int _,.int k a,.int k' b=>if k=k' then some (a== b)else none
   |.str,.str a,.str b=>some (a== b)
   |.ptr,.nilp,.nilp=>some true
   |.ptr,.nilp,.ip _=>some false
   |.ptr,.ip _,.nilp=>some false
   |.ptr,.nilp,.hp _ _=>some false
   |.ptr,.hp _ _,.nilp=>some false
   |.iface,.nili,.iface _ _=>some false
   |.iface,.iface _ _,.nili=>some false
   |.struct,.agg xs,.agg ys=>bif ti.eqok then Cc T d ti.offs xs ys else none
   |.slice _,.hn,.hn=>some true
   |.slice _,.sl (_:: _),.hn=>some false
   |.slice _,.hs _ _ _ _ _,.hn=>some false
   |.iface,.nili,.nili=>some true
   |_,_,_=>none
def Cc(T:TT):Nat->List (Nat×Nat×Bool)->List AV->List AV->Option Bool
 |_,[],_,_=>some true
 |0,_:: _,_,_=>none
 | d + 1,(o,t,named):: fs,xs,ys=>
  bif named then
   match T t with
   |none=>none
   | some ti=>match sy ti xs o,sy ti ys o with
    |some a,some b=>match qR T d t a b with
     |some true=>Cc T d fs xs ys
     |some false=>some false
     |none=>none
    |_,_=>none
  else Cc T d fs xs ys
end
def bU:List UInt8->List UInt8->Bool
 |_,[]=>false
 |[],_:: _=>true
 |a:: x,b:: y=>a<b||(a== b&&bU x y)
def Ru(op:BinOp)(k:IntKind)(a b:Int):Option AV:=
 match op with
 |.add=>some (.int k (k.wrap (a+b)))
 |.sub=>some (.int k (k.wrap (a-b)))
 |.mul=>some (.int k (k.wrap (a*b)))
 |.quo=>if b=0 then none else some (.int k (k.wrap (a.tdiv b)))
 |.rem=>if b=0 then none else some (.int k (a.tmod b))
 |.and=>some (.int k (k.wrap (BitVec.ofInt k.bits a &&& BitVec.ofInt k.bits b).toNat))
 |.or=>some (.int k (k.wrap (BitVec.ofInt k.bits a ||| BitVec.ofInt k.bits b).toNat))
 |.xor=>some (.int k (k.wrap (BitVec.ofInt k.bits a ^^^ BitVec.ofInt k.bits b).toNat))
 |.andNot=>some (.int k (k.wrap (BitVec.ofInt k.bits a &&& ~~~ BitVec.ofInt k.bits b).toNat))
 |.eql=>some (.bool (a== b))
 |.neq=>some (.bool (a != b))
 |.lss=>some (.bool (a<b))
 |.leq=>some (.bool (a<=b))
 |.gtr=>some (.bool (a>b))
 |.geq=>some (.bool (a >= b))
 |_=>none
def SN(op:BinOp)(a b:List UInt8):Option AV:=
 match op with
 |.add=>if a.length+b.length<=4611686018427387904 then some (.str (a++b))else none
 |.eql=>some (.bool (a== b))
 |.neq=>some (.bool !(a== b))
 |.lss=>some (.bool (bU a b))
 |.leq=>some (.bool (bU a b||a== b))
 |.gtr=>some (.bool !(bU a b||a== b))
 |.geq=>some (.bool !(bU a b))
 |_=>none
def WA(op:BinOp)(k:IntKind)(a b:Int):Option AV:=
 if b<0 then none else
 match op with
 |.shl=>some (.int k (k.wrap (a*2 ^ (min b.toNat k.bits))))
 |.shr=>some (.int k (a.fdiv (2 ^ (min b.toNat k.bits))))
 |_=>none
def yz:BinOp->Bool
 |.shl|.shr=>true
 |_=>false
def cF(T:TT)(op:BinOp)(t:TypeId)(x y:AV):Option AV:=
 match x,y with
 |.int k a,.int k' b=>bif yz op then WA op k a b else if k=k' then Ru op k a b else none
 |.str a,.str b=>SN op a b
 |x,y=>match op with
  |.eql=>(qR T 20 t x y).map .bool
  |.neq=>(qR T 20 t x y).map fun b=>.bool !b
  |_=>none
def KC(op:UnOp)(x:AV):Option AV:=
 match op,x with
 |.not,.bool b=>some (.bool !b)
 |.neg,.int k n=>some (.int k (k.wrap (0-n)))
 |_,_=>none
def GL(T:TT)(src dst:TypeId)(x:AV):Option AV:=
 match T src,T dst with
 |some _,some d=>match d.kind,x with
  |.int k,.int _ n=>some (.int k (k.wrap n))
  |.str,.str s=>some (.str s)
  |_,_=>none
 |_,_=>none
def ah(T:TT)(t:TypeId)(x:AV)(f:Nat):Option AV:=
 match T t with
 |none=>none
 | some ti=>match ti.offs[f]? with
  |none=>none
  | some (o,ft,_)=>match T ft with
   |none=>none
   |some fi=>if fi.size=0 then none else
    match x with
    |.ip cs=>some (.ip (cs.drop o))
    |.hp l off=>some (.hp l (off+o))
    |_=>none
def aA(T:TT)(t:TypeId)(x i:AV):Option AV:=
 match T t,i with
 | some ti,.int _ n=>match ti.kind,x with
  | .slice e,.sl es=>match T e with
   |some ei=>if n<0 then none else match es[n.toNat]? with
    |some a=>if dA a=some ei.size then some (.ip (aa a))else none
    |none=>none
   |none=>none
  |.slice e,.hs l off len _ _=>match T e with
   |some ei=>if 0<=n/\n<len then some (.hp l (off+n.toNat*ei.size))else none
   |none=>none
  |.array m e,.ip cs=>match T e with
   |some ei=>if 0<=n/\n<m then some (.ip (cs.drop (n.toNat*ei.size)))else none
   |none=>none
  |.array m e,.hp l off=>match T e with
   |some ei=>if 0<=n/\n<m then some (.hp l (off+n.toNat*ei.size))else none
   |none=>none
  |_,_=>none
 |_,_=>none
def ax(T:TT)(t:TypeId)(x:AV):Option AV:=
 match T t,x with
 |some ti,.ip cs=>bif ti.agg then(if ti.size<=cs.length then some (.agg (cs.take ti.size))else none)else cs.head?
 |_,_=>none
def kq:AV->Option AV
 |.ip cs=>some (.ip cs)
 |.hp l off=>some (.hp l off)
 |.iface t v=>some (.iface t v)
 |.fn (.func f) a c=>some (.fn (.func f) a c)
 |_=>none
def jb(T:TT)(t:TypeId)(x i:AV):Option AV:=
 match T t,i with
 | some ti,.int _ n=>match ti.kind,x with
  |.str,.str s=>if n<0 then none else s[n.toNat]?.map fun b=>.int .u8 b.toNat
  |.array m e,.agg cs=>match T e with
   |some ei=>if 0<=n/\n<m then sy ei cs (n.toNat*ei.size)else none
   |none=>none
  |_,_=>none
 |_,_=>none
def pj(T:TT)(t:TypeId)(x:AV)(f:Nat):Option AV:=
 match T t,x with
 | some ti,.agg cs=>match ti.kind,ti.offs[f]? with
  |.struct,some (o,ft,_)=>match T ft with
   |some fi=>sy fi cs o
   |none=>none
  |_,_=>none
 |_,_=>none
def cw(x:Option AV)(dflt most:Nat):Option Nat:=
 match x with
 |none=>some dflt
 |some (.int _ n)=>if 0<=n/\n<=most then some n.toNat else none
 |some _=>none
def ay:AV->Bool
 |.any|.agg _|.tup _|.nilb _|.byt _ _|.it _=>false
 |_=>true
def bR(sz:Nat)(e:AV):Bool:=dA e== some sz&&(aa e).all ay
def dn(sz:Nat)(es:List AV):Bool:=es.all (bR sz)
def Cq:AV->Bool
 |.str _=>true
 |_=>false
def da(T:TT)(t:TypeId)(x:AV)(lo hi mx:Option AV):Option AV:=
 match T t with
 |none=>none
 | some ti=>match ti.kind,x with
  | .str,.str s=>match mx with
   |some _=>none
   | none=>match cw hi s.length s.length with
    |none=>none
    |some h=>match cw lo 0 h with
     |none=>none
     |some l=>some (.str ((s.take h).drop l))
  | .slice e,.sl es=>match T e with
   |none=>none
   | some ei=>match cw hi es.length es.length with
    |none=>none
    | some h=>match cw lo 0 h with
     |none=>none
     | some l=>bif decide (l=0)||dn ei.size es then
      (match mx with
      |none=>some (.sl ((es.take h).drop l))
      |some m=>match hi,cw (some m) 0 es.length with
       |some _,some m'=>if m'=h then some (.sl ((es.take h).drop l))else none
       |_,_=>none)
      else none
  | .slice e,.hn=>match T e with
   |none=>none
   | some _=>match mx with
    |some _=>none
    | none=>match cw hi 0 0 with
     |none=>none
     |some h=>match cw lo 0 h with
      |none=>none
      |some _=>some .hn
  | .slice e,.he=>match T e with
   |none=>none
   | some _=>match mx with
    |some _=>none
    | none=>match cw hi 0 0 with
     |none=>none
     |some h=>match cw lo 0 h with
      |none=>none
      |some _=>some .he
  | .slice e,.hs l0 off len sz ag=>match T e with
   |none=>none
   | some ei=>match mx with
    |some _=>none
    | none=>match cw hi len len with
     |none=>none
     |some h=>match cw lo 0 h with
      |none=>none
      |some l=>if ei.size=sz then(if l<h then some (.hs l0 (off+l*sz) (h-l) sz ag)else some (.sl []))else none
  |.array m e,.ip cs=>match T e,lo,hi,mx with
   |some ei,none,none,none=>if ei.size=1/\cs.length=m/\0<m/\cs.all Cq=true then some (.sl cs)else none
   |_,_,_,_=>none
  |_,_=>none
def rF(T:TT)(t:TypeId)(x:AV)(lo hi mx:Option AV):Option AV:=
 match x,lo,mx with
 | .hs l off len sz ag,none,none=>match T t with
  |none=>none
  | some ti=>match ti.kind with
   | .slice e=>match T e with
    |none=>none
    |some ei=>match cw hi len len with
     |none=>none
     |some h=>if ei.size=sz then some (.hs l off h sz ag)else none
   |_=>none
 |x,lo,mx=>da T t x lo hi mx
def GM(T:TT)(t:TypeId)(x:AV)(lo:Option AV):Option AV:=match x with
 |.sl es=>da T t (.sl es) lo none none
 |_=>none
def setCells(cs:List AV)(off:Nat)(xs:List AV):List AV:=cs.take off++xs++cs.drop (off+xs.length)
def rW(place:Nat->Option (Nat×Nat))(cs:List AV):List (Nat×AV)->Option (List AV)
 |[]=>some cs
 |(i,v):: rest=>match place i with
  |none=>none
  |some (off,size)=>if dA v=some size/\off+size<=cs.length then rW place (setCells cs off (aa v)) rest else none
def kK(T:TT):List (Nat×Nat×Bool)->Option (List (Nat×Nat))
 |[]=>some []
 |(o,t,_):: fs=>match T t,kK T fs with
  |some ti,some r=>some ((o,ti.size):: r)
  |_,_=>none
def dC(told:Bool)(ti:TI):List AV:=bif told then ti.zero.map (fun|.sl []=>.hn|x=>x)else ti.zero
def cG(T:TT)(told:Bool)(t:TypeId)(parts:List (Nat×AV)):Option AV:=
 match T t with
 |none=>none
 | some ti=>match ti.kind with
  |.struct=>match kK T ti.offs with
   |none=>none
   |some pl=>(rW (fun i=>pl[i]?) (dC told ti) parts).map .agg
  |.array _ e=>match T e with
   |none=>none
   |some ei=>(rW (fun i=>some (i*ei.size,ei.size)) (dC told ti) parts).map .agg
  |_=>none
def lK(ti:TI):AV:=bif ti.agg then .agg ti.zero else ab ti.zero 0
def mF(sz:Nat)(es:List AV):List (Nat×AV)->Option (List AV)
 |[]=>some es
 |(i,v):: rest=>if dA v=some sz/\i<es.length then mF sz (es.set i v) rest else none
def aQ(T:TT)(t:TypeId)(len:Nat)(parts:List (Nat×AV)):Option AV:=
 match T t with
 |none=>none
 | some ti=>match ti.kind with
  |.slice e=>match T e with
   |none=>none
   |some ei=>if len*ei.size<=16777216/\dA (lK ei)=some ei.size then(mF ei.size (List.replicate len (lK ei)) parts).map .sl else none
  |_=>none
def hJ(T:TT)(t:TypeId)(len cap:AV):Option AV:=
 match T t,len,cap with
 | some ti,.int .i64 n,.int .i64 c=>match ti.kind with
  |.slice e=>match T e with
   |none=>none
   |some ei=>if 0<=n/\n<=c/\c<=140737488355328/\ei.bytes*c<=140737488355328/\dA (lK ei)=some ei.size then some (.sl (List.replicate n.toNat (lK ei)))else none
  |_=>none
 |_,_,_=>none
def gk:AV->Option (List AV)
 |.sl es=>some es
 |.hn=>some []
 |.he=>some []
 |.hs _ _ 0 _ _=>some []
 |.str s=>some (s.map fun b=>.int .u8 b.toNat)
 |_=>none
def iw:AV->Nat->Bool
 |.str _,n=>Nat.beq n 1
 |_,_=>true
def dJ(T:TT)(t:TypeId)(x y:AV):Option AV:=
 match T t with
 |none=>none
 | some ti=>match ti.kind with
  | .slice e=>match T e with
   |none=>none
   |some ei=>match x,gk y with
    |.sl as,some bs=>bif dn ei.size as&&dn ei.size bs&&decide ((as.length+bs.length)*ei.bytes<=140737488355328)&&decide (0<ei.bytes)&&iw y ei.size then some (.sl (as++bs))else none
    |_,_=>none
  |_=>none
def bp(T:TT)(t:TypeId)(x:AV):Option AV:=
 match T t with
 |none=>none
 |some ti=>match ti.kind,x with
  |.slice _,.sl es=>some (.int .i64 es.length)
  |.slice _,.hs _ _ n _ _=>some (.int .i64 n)
  |.slice _,.hn=>some (.int .i64 0)
  |.slice _,.he=>some (.int .i64 0)
  |.str,.str s=>some (.int .i64 s.length)
  |.array n _,_=>some (.int .i64 n)
  |_,_=>none
def HK(big:Bool):AV->AV->Option AV
 |.int k x,.int _ y=>some (.int k (bif big then(if y>x then y else x)else(if y<x then y else x)))
 |_,_=>none
def ka(big:Bool):List AV->Option AV
 |[]=>none
 |[x]=>some x
 |x:: y:: r=>match HK big x y with
  |some z=>ka big (z:: r)
  |none=>none
 termination_by l=>l.length
def dy(x:AV)(i:Nat):Option AV:=match x with
 |.tup vs=>vs[i]?
 |_=>none
def gx(c a b:AV):Option AV:=match c with
 |.bool true=>some a
 |.bool false=>some b
 |_=>none
def l7(T:TT)(t:TypeId)(x:AV):Option AV:=match T t with
 |none=>none
 |some ti=>match ti.kind with
  |.iface=>none
  |_=>some (.iface t x)
def Bp:AV->Option Nat
 |.nilb t=>some t
 |.byt t _=>some t
 |_=>none
def uw(a:AV):Bool:=(Bp a).isSome
def newH(cs:List AV):M AV:=fun h=>bif cs.isEmpty||cs.any uw then .fail else .ok (.hp h.length 0) (h++[cs])
def Ka(t:Nat)(cs:List AV):M AV:=fun _=>.fail
def bb(T:TT)(t:TypeId)(x:AV):M AV:=fun h=>
 match x with
 | .hp l off=>match T t,h[l]? with
  | some ti,some cs=>bif ti.agg then(if off+ti.size<=cs.length then .ok (.agg ((cs.drop off).take ti.size)) h else .fail)
   else match cs[off]? with
    |some v=>.ok v h
    |none=>.fail
  |_,_=>.fail
 |x=>match ax T t x with
  |some v=>.ok v h
  |none=>.fail
def bS(T:TT)(t:TypeId)(x v:AV):M AV:=fun h=>
 match x,T t with
 |.hp l off,some ti=>match h[l]? with
  |some cs=>bif bR ti.size v&&decide (off+ti.size<=cs.length)&&decide (0<ti.size)then .ok (.tup []) (h.set l (setCells cs off (aa v)))else .fail
  |none=>.fail
 |_,_=>.fail
def appH(T:TT)(t:TypeId)(z:Bool)(x y:AV):M AV:=fun h=>
 match T t with
 |none=>.fail
 | some ti=>match ti.kind with
  | .slice e=>match T e with
   |none=>.fail
   | some ei=>match gk y with
    |none=>.fail
    | some bs=>bif dn ei.size bs&&decide (0<ei.bytes)&&decide (0<ei.size)&&iw y ei.size then
      match x with
      |.hn=>bif bs.isEmpty then .ok .hn h else
       bif decide (bs.length*ei.bytes<=140737488355328)then .ok (.hs h.length 0 bs.length ei.size ei.agg) (h++[bs.flatMap aa])else .fail
      |.he=>bif bs.isEmpty then .ok .he h else
       bif decide (bs.length*ei.bytes<=140737488355328)then .ok (.hs h.length 0 bs.length ei.size ei.agg) (h++[bs.flatMap aa])else .fail
      |.sl []=>bif z then(bif bs.isEmpty then .ok (.sl []) h else
       bif decide (bs.length*ei.bytes<=140737488355328)then .ok (.hs h.length 0 bs.length ei.size ei.agg) (h++[bs.flatMap aa])else .fail)else .fail
      | .hs l 0 len sz ag=>match h[l]? with
       |none=>.fail
       | some cs=>bif sz== ei.size&&ag== ei.agg&&cs.all ay&&decide (len*sz<=cs.length)&&decide (0<cs.length)&&decide ((len+bs.length)*ei.bytes<=140737488355328)then
         (bif bs.isEmpty then .ok (.hs l 0 len sz ag) h
         else .ok (.hs h.length 0 (len+bs.length) sz ag) ((h.set l [])++[cs.take (len*sz)++bs.flatMap aa]))
        else .fail
      |_=>.fail
     else .fail
  |_=>.fail
def Jf(T:TT)(t:TypeId)(x y:AV):M AV:=fun _=>.fail
def qK(T:TT)(t:TypeId)(len:Nat)(parts:List (Nat×AV)):M AV:=fun h=>
 match aQ T t len parts with
 | some (.sl es)=>match T t with
  |none=>.fail
  | some ti=>match ti.kind with
   |.slice e=>match T e with
    |none=>.fail
    |some ei=>bif Nat.beq len 0 then .ok .he h else bif dn ei.size es&&decide (0<ei.size)&&decide (0<len)then .ok (.hs h.length 0 len ei.size ei.agg) (h++[es.flatMap aa])else .fail
   |_=>.fail
 |_=>.fail
def qe(T:TT)(t:TypeId)(len cap:AV):M AV:=fun h=>
 match hJ T t len cap with
 | some (.sl es)=>match T t with
  |none=>.fail
  | some ti=>match ti.kind with
   |.slice e=>match T e with
    |none=>.fail
    |some ei=>bif dn ei.size es&&decide (0<ei.size)&&decide (0<es.length)then .ok (.hs h.length 0 es.length ei.size ei.agg) (h++[es.flatMap aa])else .fail
   |_=>.fail
 |_=>.fail
def kh(ag:Bool)(sz:Nat):Nat->List AV->List AV
 |0,_=>[]
 |n+1,cs=>(bif ag then .agg (cs.take sz)else ab cs 0):: kh ag sz n (cs.drop sz)
def oI(h:Hp):AV->Option (List AV)
 |.hs _ _ 0 _ _=>some []
 |.hs l off len sz ag=>match h[l]? with
  |some cs=>bif (ag||Nat.beq sz 1)&&decide (off+len*sz<=cs.length)&&((cs.drop off).take (len*sz)).all ay then some (kh ag sz len (cs.drop off))else none
  |none=>none
 |.hn=>some []
 |.he=>some []
 |.sl es=>some es
 |_=>none
def gf(T:TT)(t:TypeId)(z:Bool)(x y:AV):M AV:=fun h=>match oI h y with
 |some es=>appH T t z x (.sl es) h
 |none=>.fail
def zw(T:TT)(t:TypeId)(x y:AV):M AV:=fun h=>match oI h y with
 |some es=>(match dJ T t x (.sl es)with
  |some v=>.ok v h
  |none=>.fail)
 |none=>.fail
def yk(T:TT)(t:TypeId)(x:AV):M AV:=fun _=>.fail
def F8(T:TT):Nat->Nat->AV->Bool
 |0,_,_=>false
 | d + 1,t,x=>match T t with
  |none=>false
  | some ti=>match ti.kind,x with
   |.bool,_=>true
   |.int _,_=>true
   |.str,_=>true
   |.ptr,_=>true
   | .struct,.agg cs=>ti.offs.all fun f=>match T f.2.1 with
    |none=>false
    |some fi=>match sy fi cs f.1 with
     |some y=>F8 T d f.2.1 y
     |none=>false
   |_,_=>false
def Ef:AV->AV->Bool
 |.bool a,.bool b=>a== b
 |.int k a,.int k' b=>decide (k=k')&&a== b
 |.str a,.str b=>a== b
 |_,_=>false
def yV:List AV->List AV->Bool
 |[],[]=>true
 |x:: xs,y:: ys=>Ef x y&&yV xs ys
 |_,_=>false
def Eg:AV->AV->Bool
 |.agg xs,.agg ys=>yV xs ys
 |x,y=>Ef x y
def eO(T:TT)(kt:Nat)(k:AV):List AV->Nat->Option (Option (Nat×AV×AV))
 |[],_=>some none
 |.tup [k',v]:: es,i=>match qR T 20 kt k k' with
  |some true=>some (some (i,k',v))
  |some false=>eO T kt k es (i+1)
  |none=>none
 |_:: _,_=>none
def uK(T:TT)(t:Nat):Option (Nat×Nat):=match T t with
 |some ti=>(match ti.kind with|.map k e=>some (k,e)|_=>none)
 |none=>none
def ga:M AV:=fun h=>.ok (.mp h.length) (h++[[.tup []]])
def mX(h:Hp):AV->Option (List AV)
 |.mp l=>match h[l]? with
  |some [.tup es]=>some es
  |_=>none
 |.nilm=>some []
 |_=>none
def oP(T:TT)(t:TypeId)(es:List AV)(k:AV)(ok:Bool):Option AV:=match uK T t with
 |none=>none
 | some (kt,et)=>bif F8 T 20 kt k then(match T et with
  |none=>none
  |some ei=>match eO T kt k es 0 with
   |some (some (_,_,v))=>some (bif ok then .tup [v,.bool true]else v)
   |some none=>some (bif ok then .tup [lK ei,.bool false]else lK ei)
   |none=>none)else none
def ec(T:TT)(t:TypeId)(x k:AV)(ok:Bool):M AV:=fun h=>match mX h x with
 |none=>.fail
 |some es=>match oP T t es k ok with
  |some v=>.ok v h
  |none=>.fail
def we(T:TT)(kt:Nat)(es:List AV)(k v:AV):Option (List AV):=match eO T kt k es 0 with
 |some (some (i,k',_))=>bif Eg k' k then some (es.set i (.tup [k,v]))else none
 |some none=>some (es++[.tup [k,v]])
 |none=>none
def oG(T:TT)(t:TypeId)(x k v:AV):M AV:=fun h=>match uK T t with
 |none=>.fail
 | some (kt,_)=>bif F8 T 20 kt k then(match x with
  | .mp l=>(match h[l]? with
   |some [.tup es]=>(match we T kt es k v with
    |some es'=>.ok (.tup []) (h.set l [.tup es'])
    |none=>.fail)
   |_=>.fail)
  |_=>.fail)else .fail
def Sy(ps:List Nat):AV:=.sl (ps.map fun(i:Nat)=>.int .i64 i)
def yO(T:TT)(t:TypeId)(x:AV):M AV:=fun _=>.fail
def tP(x:AV):M AV:=fun _=>.fail
mutual
def cl(g:Nat->Nat->Nat->Nat->Bool->AV):AV->AV
 |.agg cs=>.agg (fp g cs)
 |.tup cs=>.tup (fp g cs)
 |.sl es=>.sl (fp g es)
 |.ip cs=>.ip (fp g cs)
 |.hp _ _=>.any
 |.hs l off len sz ag=>g l off len sz ag
 |.hn=>.sl []
 |.he=>.sl []
 |.fn f a c=>.fn f (fp g a) (fp g c)
 |.iface t v=>.iface t (cl g v)
 |.any=>.any
 |.bool b=>.bool b
 |.int k n=>.int k n
 |.str s=>.str s
 |.nilp=>.nilp
 |.nilf=>.nilf
 |.nili=>.nili
 |.mp _=>.any
 |.nilm=>.nilm
 |.nilb _=>.nilp
 |.byt _ n=>.int .u8 n
 |.it _=>.any
def fp(g:Nat->Nat->Nat->Nat->Bool->AV):List AV->List AV
 |[]=>[]
 |c:: cs=>cl g c:: fp g cs
end
def aF:Nat->Nat->Nat->Nat->Bool->AV:=fun _ _ _ _ _=>.any
def frz:Nat->Hp->AV->AV
 |0,_,a=>cl aF a
 | d + 1,h,a=>cl (fun l off len sz ag=>match h[l]? with
   | some cs=>bif decide (off+len*sz<=cs.length)&&decide (0<sz)&&(ag||(Nat.beq sz 1&&cs.all ay))then
     .sl ((List.range len).map fun i=>frz d h (bif ag then .agg ((cs.drop (off+i*sz)).take sz)else ab cs (off+i*sz)))else .any
   |none=>.any) a
inductive SV where
 |val (a:AV)
 |loc (B off:Nat)
structure Ent where
 v:SV
 g:Option Nat
def Ent.none:Ent:=⟨.val .any,.none⟩
def cD:List (Nat×Ent)->Nat->Ent
 |[],_=>Ent.none
 |(k,e):: r,t=>bif Nat.beq k t then e else cD r t
structure Env where
 sl:List (Nat×Ent)
 al:List (Nat×Option Nat)
 nx:Nat
 lb:List (Nat×Nat)
def Env.get(e:Env)(t:Nat):Ent:=cD e.sl t
def Env.set(e:Env)(t:Nat)(x:Ent):Env:={ e with sl:=(t,x):: e.sl }
def Ent.av(x:Ent):AV:=match x.v with
 |.val a=>a
 |.loc _ _=>.any
def Env.av(e:Env)(t:Nat):AV:=(e.get t).av
def opnd(e:Env):Operand->AV
 |.tmp t=>e.av t
 |.const v=>cA v
 |.func f=>.fn (.func f) [] []
 |.global g=>(match Ai g with|some cs=>.ip cs|none=>.any)
inductive Kind where
 |F|L|H|S|B
 deriving DecidableEq
structure JA where
 vals:List (Nat×Option Nat)
 locs:List (Nat×Nat×Nat):=[]
 lbs:List (Nat×Nat):=[]
 fz:Bool:=false
structure Ann where
 iso:Bool:=true
 kinds:List (Nat×Kind):=[]
 hl:List Nat:=[]
 ha:List Nat:=[]
 hb:List Nat:=[]
 joins:List (Nat×JA):=[]
 loops:List (Nat×JA):=[]
 ords:List (Nat×List Nat):=[]
 nils:List (Nat×List Nat):=[]
 fz:List Nat:=[]
 no:List Nat:=[]
 nl:List Nat:=[]
 lw:List Nat:=[]
 rz:Bool:=false
 so:List Nat:=[]
 sl1:List Nat:=[]
 sl0:List Nat:=[]
 lm:List (Nat×Nat×Nat):=[]
 cm:List (Nat×Nat×Nat):=[]
 deriving Inhabited
def dl(l:List (Nat×Kind))(t:Nat)(dflt:Kind):Kind:=match l with
 |[]=>dflt
 |(k,x):: r=>bif Nat.beq k t then x else dl r t dflt
def tU(l:List (Nat×JA))(t:Nat):Option JA:=match l with
 |[]=>none
 |(k,x):: r=>bif Nat.beq k t then some x else tU r t
def G5(l:List (Nat×List Nat))(t:Nat):Option (List Nat):=match l with
 |[]=>none
 |(k,x):: r=>bif Nat.beq k t then some x else G5 r t
def dP(l:List Nat)(t:Nat):Bool:=match l with
 |[]=>false
 |k:: r=>bif Nat.beq k t then true else dP r t
def jy(l:List (Nat×Nat×Nat))(d:Option Nat):Option (Nat×Nat):=match d,l with
 |some t,(k,x):: r=>bif Nat.beq k t then some x else jy r (some t)
 |_,_=>none
def bL(l:List Nat):Option Nat->Bool
 |some t=>dP l t
 |none=>false
structure Cx where
 T:TT
 call:FuncId->List AV->M AV
 own:FuncId->Option Nat
 iso:FuncId->Bool
 nw:FuncId->Bool:=fun _=>false
 nt:Nat
 ann:Ann
def aP(al:List (Nat×Option Nat))(g:Nat):Option (Option Nat):=match al with
 |[]=>none
 |(k,x):: r=>bif Nat.beq k g then some x else aP r g
def wO(al:List (Nat×Option Nat))(g:Nat):List (Nat×Option Nat):=match al with
 |[]=>[]
 |(k,x):: r=>bif Nat.beq k g then wO r g else(k,x):: wO r g
def aL(d:Nat):Nat:=1000*(d+1)
def m0(e:Env)(B:Nat):Nat->List AV
 |0=>[]
 |n+1=>m0 e B n++[e.av (B+n)]
def ba(l:List (Nat×Nat))(B:Nat):Option Nat:=match l with
 |[]=>none
 |(k,x):: r=>bif Nat.beq k B then some x else ba r B
def kZ(e:Env)(B off n:Nat):Bool:=match ba e.lb B with
 |some m=>decide (off+n<=m)&&decide (1000<=B)&&decide (B % 1000=0)&&decide (m<=1000)
 |none=>false
def mn(n:Nat)(x:AV):Option (List AV):=bif bR n x then some (aa x)else none
def cU(call:FuncId->List AV->M AV)(f:AV)(args:List AV):M AV:=match f with
 |.fn (.func g) a c=>call g (a++args++c)
 |_=>gU
def dN(T:TT)(t:TypeId):Option Nat:=match T t with
 |some ti=>match ti.kind with
  |.slice e=>(T e).map (·.size)
  |_=>none
 |none=>none
def bu:Operand->Bool
 |.const (.slice none 0 0)=>true
 |_=>false
def uQ(e:Env)(x:Operand):AV:=bif bu x then .hn else opnd e x
def oQ(told:Bool)(e:Env)(x:Operand):AV:=bif told then uQ e x else opnd e x
structure Upd where
 ent:Ent
 ls:List (Nat×Ent):=[]
 drop:Option Nat:=none
 add:List (Nat×Option Nat):=[]
 lb:Option (Nat×Nat):=none
 unlb:Option Nat:=none
def Upd.ofV(a:AV):Upd:={ ent:=⟨.val a,none⟩ }
def Upd.own(a:AV)(gid:Nat)(sz:Option Nat):Upd:={ ent:=⟨.val a,some gid⟩,add:=[(gid,sz)] }
def fZ(al:List (Nat×Option Nat)):Option Nat->List (Nat×Option Nat)
 |some g=>wO al g
 |none=>al
def oM(l:List (Nat×Nat))(B:Nat):List (Nat×Nat):=match l with
 |[]=>[]
 |(k,x):: r=>bif Nat.beq k B then oM r B else(k,x):: oM r B
def eZ(l:List (Nat×Nat)):Option Nat->List (Nat×Nat)
 |some B=>oM l B
 |none=>l
def nn{α:Type}(l:List α):Option α->List α
 |some x=>x:: l
 |none=>l
def qw(d:Option Tmp)(x:Ent)(r:List (Nat×Ent)):List (Nat×Ent):=match d with
 |some t=>(t,x):: r
 |none=>r
def Env.upd(e:Env)(d:Option Tmp)(u:Upd):Env:=
 { sl:=qw d u.ent (u.ls++e.sl),al:=u.add++fZ e.al u.drop,nx:=e.nx,lb:=nn (eZ e.lb u.unlb) u.lb }
inductive Act1 where
 |bad
 |stat (u:Upd)
 |dyn (m:M AV) (sh:AV->Upd)
 |thr (v:AV)
def kp(B:Nat)(cs:List AV)(offs:List Nat)(gid n:Nat):List (Nat×Ent):=
 (List.range n).map fun i=>(B+i,bif dP offs i then⟨.val (.sl []),some (gid+i)⟩else⟨.val (ab cs i),none⟩)
def qX(offs:List Nat)(gid:Nat):List (Nat×Option Nat):=offs.map fun i=>(gid+i,none)
def Nx:AV->Bool
 |.hn=>true
 |_=>false
def iI(cs:List AV)(offs:List Nat)(n:Nat):Bool:=offs.all fun i=>decide (i<n)&&Nx (ab cs i)
def fW(l:List (Nat×List Nat))(t:Nat):List Nat:=match G5 l t with
 |some x=>x
 |none=>[]
def aT(l:List (Nat×Ent))(B:Nat):Bool:=l.all fun x=>match x.2.v with
 |.loc C _=>!(Nat.beq C B)
 |.val _=>true
def jR(T:TT)(t:Nat):Bool:=match T t with
 |some ti=>(match ti.kind with|.slice _|.str=>true|_=>false)
 |none=>false
def y9(z:Option Nat)(s:Option Nat):Bool:=match z with
 |none=>true
 |some n=>(match s with|some m=>Nat.beq n m|none=>false)
def cg(n:Nat)(x:AV):M AV:=bP ((mn n x).map .agg)
def gL(x:AV):M AV:=bP (bif ay x then some x else none)
def bD(n:Nat)(offs:List Nat)(x:AV):M AV:=bP (match mn n x with
 |some cs=>bif iI cs offs n then some (.agg cs)else none
 |none=>none)
mutual
def nD:AV->AV->Bool
 |.any,.any=>true
 |.bool a,.bool b=>a== b
 |.int k a,.int k' b=>decide (k=k')&&a== b
 |.str a,.str b=>a== b
 |.nilp,.nilp=>true
 |.nilf,.nilf=>true
 |.nili,.nili=>true
 |.agg a,.agg b=>qS a b
 |.tup a,.tup b=>qS a b
 |.sl a,.sl b=>qS a b
 |.ip a,.ip b=>qS a b
 |.hp l o,.hp l' o'=>Nat.beq l l'&&Nat.beq o o'
 |.hs l o n s g,.hs l' o' n' s' g'=>Nat.beq l l'&&Nat.beq o o'&&Nat.beq n n'&&Nat.beq s s'&&(g== g')
 |.hn,.hn=>true
 |.fn f a c,.fn f' a' c'=>decide (f=f')&&qS a a'&&qS c c'
 |.iface t a,.iface t' b=>Nat.beq t t'&&nD a b
 |.mp l,.mp l'=>Nat.beq l l'
 |.nilm,.nilm=>true
 |.nilb t,.nilb t'=>Nat.beq t t'
 |.byt t n,.byt t' n'=>Nat.beq t t'&&n== n'
 |.it l,.it l'=>Nat.beq l l'
 |.he,.he=>true
 |_,_=>false
def qS:List AV->List AV->Bool
 |[],[]=>true
 |a:: l,b:: r=>nD a b&&qS l r
 |_,_=>false
end
def vd(m r:Nat):Nat->List AV->List AV->Bool
 |_,[],_=>true
 |_,_:: _,[]=>false
 |o,c:: cs,d:: ds=>(bif Nat.beq (o % m) r then nD c d else true)&&vd m r (o+1) cs ds
def ly(m r:Nat):Hp->Hp->Bool
 |[],_=>true
 |_:: _,[]=>false
 |c:: cs,d:: ds=>vd m r 0 c d&&ly m r cs ds
def iu(m r:Nat)(x:M AV):M AV:=fun h=>match x h with
 |.ok v h'=>bif ly m r h h' then .ok v h' else .fail
 |.pan v h'=>.pan v h'
 |.fail=>.fail
def fP(T:TT)(m r:Nat)(t:TypeId)(x:AV):M AV:=fun h=>match x,T t with
 |.hp l off,some ti=>bif Nat.beq (off % m) r&&!ti.agg then bb T t (.hp l off) h else .fail
 |_,_=>.fail
def DI(v:AV):M AV:=fun h=>.ok (frz 6 h v) (h.map fun _=>[])
def KU:List AV->Option Nat
 |[]=>none
 |.hs l _ _ _ _:: _=>some l
 |_:: cs=>KU cs
def Rn(h:Hp)(l:Nat):Nat->Nat->Nat->Nat->Bool->AV:=fun l' off len sz ag=>bif Nat.beq l' l then frz 1 h (.hs l off len sz ag)else .any
def oF(v:AV):M AV:=fun h=>match v with
 |.hs l off len sz ag=>.ok (frz 1 h (.hs l off len sz ag)) (h.set l [])
 |.agg cs=>match KU cs with
  |some l=>.ok (cl (Rn h l) (.agg cs)) (h.set l [])
  |none=>.ok (frz 0 h (.agg cs)) h
 |v=>.ok (frz 0 h v) h
def gW(e:Env):Operand->Bool
 |.tmp s=>(match (e.get s).g with
  |some g=>(match aP e.al g with|some none=>true|_=>false)
  |none=>false)
 |_=>false
def ib(cx:Cx)(e:Env)(gid:Nat)(o:Oper)(c:Call):Act1:=
 match c.callee with
 |.value (.func f)=>bif bL cx.ann.fz o.dst then(bif !(cx.iso f)&&(cx.own f).isNone then .dyn (au (cx.call f (c.args.toList.map (opnd e))) (bif bL cx.ann.hl o.dst then oF else DI)) .ofV else .bad)else
  match jy cx.ann.cm o.dst with
  |some (m,r)=>bif !(cx.iso f)&&(cx.own f).isNone then .dyn (iu m r (cx.call f (c.args.toList.map (opnd e)))) .ofV else .bad
  |none=>.dyn (cx.call f (c.args.toList.map (oQ (bL cx.ann.hb o.dst) e))) fun v=>match cx.own f with|some sz=>.own v gid (some sz)|none=>.ofV v
 |.value f=>.dyn (cU cx.call (opnd e f) (c.args.toList.map (opnd e))) .ofV
 |.builtin .len=>match c.argTypes.toList,c.args.toList with
  |t:: _,x:: _=>.dyn (bP (bp cx.T t (opnd e x))) .ofV
  |_,_=>.bad
 |.builtin .clear=>match c.argTypes.toList,c.args.toList with
  |t:: _,x:: _=>.dyn (yk cx.T t (opnd e x)) .ofV
  |_,_=>.bad
 |.builtin .min=>.dyn (bP (ka false (c.args.toList.map (opnd e)))) .ofV
 |.builtin .max=>.dyn (bP (ka true (c.args.toList.map (opnd e)))) .ofV
 | .builtin .append=>match c.argTypes.toList,c.args.toList with
  | [t, u],[x,y]=>
   bif !(jR cx.T u)then .bad else
   bif bL cx.ann.ha o.dst then .dyn (bif bL cx.ann.hb o.dst then Jf cx.T t (opnd e x) (opnd e y)else bif bL cx.ann.hl o.dst then gf cx.T t (gW e x) (opnd e x) (opnd e y)else appH cx.T t (gW e x) (opnd e x) (opnd e y)) .ofV
   else bif bu x then .dyn (bif bL cx.ann.hl o.dst then zw cx.T t (.sl []) (opnd e y)else bP (dJ cx.T t (.sl []) (opnd e y))) fun v=>.own v gid (dN cx.T t)
   else match x with
    | .tmp s=>match (e.get s).g with
     |none=>.bad
     | some g=>match aP e.al g with
      |none=>.bad
      | some z=>bif y9 z (dN cx.T t)then
        .dyn (bif bL cx.ann.hl o.dst then zw cx.T t (opnd e x) (opnd e y)else bP (dJ cx.T t (opnd e x) (opnd e y))) fun v=>{ Upd.own v gid (dN cx.T t)with drop:=some g }
       else .bad
    |_=>.bad
  |_,_=>.bad
 |_=>.bad
def fc(cx:Cx)(e:Env)(d:Option Tmp)(t:TypeId)(p:Nat):Act1:=
 match (e.get p).v with
 | .loc B off=>match cx.T t with
  |none=>.bad
  | some ti=>bif kZ e B off ti.size then
    (bif ti.agg then .stat (.ofV (.agg (m0 e (B+off) ti.size)))else bif decide (ti.size=1)then .stat { ent:=e.get (B+off) }else .bad)
   else .bad
 |.val a=>bif bL cx.ann.hl d then .dyn (bb cx.T t a) .ofV else .dyn (bP (ax cx.T t a)) .ofV
def Np(one:Bool):Act1->Act1
 |.bad=>.bad
 |.stat u=>.dyn (bif one then oF u.ent.av else DI u.ent.av) .ofV
 |.dyn m sh=>.dyn (au m fun v=>bif one then oF (sh v).ent.av else DI (sh v).ent.av) .ofV
 |.thr v=>.thr v
def Fh:Kind->Bool
 |.S=>true
 |_=>false
def pH(e:Env)(B off p n:Nat):Bool:=Nat.beq off 0&&Nat.beq B (aL p)&&(match ba e.lb B with
 |some m=>Nat.beq m n
 |none=>false)
def gX(cx:Cx)(e:Env)(gid:Nat)(t:TypeId)(p:Nat)(y:Operand):Act1:=
 match (e.get p).v with
 | .loc B off=>match cx.T t with
  |none=>.bad
  | some ti=>bif kZ e B off ti.size then
    (bif Fh (dl cx.ann.kinds p .L)then(bif pH e B off p ti.size then
      .dyn (cg ti.size (opnd e y)) fun v=>{ Upd.ofV (.tup [])with ls:=[(p,⟨.val (.ip (aa v)),none⟩)],unlb:=some B }
     else .bad)
    else
    bif ti.agg then
     (match fW cx.ann.nils p with
     |offs=>.dyn (bD ti.size offs (opnd e y)) fun v=>{ Upd.ofV (.tup [])with ls:=kp (B+off) (aa v) offs gid ti.size,add:=qX offs gid })
    else bif decide (ti.size=1)then(match y with
     |.tmp s=>match (e.get s).v with
      |.val a=>.dyn (gL a) fun _=>{ Upd.ofV (.tup [])with ls:=[(B+off,e.get s)] }
      |.loc _ _=>.bad
     |y=>bif bu y then .stat { Upd.ofV (.tup [])with ls:=[(B+off,⟨.val (.sl []),some gid⟩)],add:=[(gid,none)] }
      else .dyn (gL (opnd e y)) fun v=>{ Upd.ofV (.tup [])with ls:=[(B+off,⟨.val v,none⟩)] })else .bad)
   else .bad
 |.val a=>.dyn (bS cx.T t a (opnd e y)) .ofV
def kv(cx:Cx)(e:Env)(t:TypeId)(p f:Nat):Act1:=
 match (e.get p).v with
 | .loc B off=>match cx.T t with
  |none=>.bad
  | some ti=>match ti.offs[f]? with
   |none=>.bad
   |some (o',ft,_)=>match cx.T ft with
    |none=>.bad
    |some fi=>bif decide (fi.size=0)then .bad else .stat { ent:=⟨.loc B (off+o'),none⟩ }
 |.val a=>.dyn (bP (ah cx.T t a f)) .ofV
def tM:Operand->Option Int
 |.const (.int _ n)=>some n
 |_=>none
def eV(cx:Cx)(e:Env)(t:TypeId)(p:Nat)(i:Operand):Act1:=
 match (e.get p).v with
 | .loc B off=>match cx.T t,tM i with
  | some ti,some n=>match ti.kind with
   |.array m el=>match cx.T el with
    |none=>.bad
    |some ei=>bif decide (0<=n/\n<m)then .stat { ent:=⟨.loc B (off+n.toNat*ei.size),none⟩ }else .bad
   |_=>.bad
  |_,_=>.bad
 |.val a=>.dyn (bP (aA cx.T t a (opnd e i))) .ofV
def fR(cx:Cx)(e:Env)(gid s:Nat)(t:TypeId):Act1:=
 match cx.T t with
 |none=>.bad
 | some ti=>match dl cx.ann.kinds s .L with
  |.F=>.stat (.ofV (.ip ti.zero))
  |.H=>.dyn (newH (dC (dP cx.ann.hb s) ti)) .ofV
  |.B=>.dyn (Ka t (dC true ti)) .ofV
  |_=>match fW cx.ann.nils s with
   | offs=>bif decide (ti.size<1000)&&aT e.sl (aL s)&&iI (dC true ti) offs ti.size then
     .stat { ent:=⟨.loc (aL s) 0,none⟩,ls:=kp (aL s) (dC (dP cx.ann.hb s) ti) offs gid ti.size,add:=qX offs gid,lb:=some (aL s,ti.size) }else .bad
def nM(cx:Cx)(e:Env)(s:Nat)(t:TypeId)(x:Operand):Act1:=
 match dl cx.ann.kinds s .F with
 |.F=>.stat (.ofV (.ip (aa (opnd e x))))
 |.H=>.dyn (newH (aa (opnd e x))) .ofV
 |.B=>.bad
 | _=>match cx.T t with
  |none=>.bad
  | some ti=>bif decide (ti.size<1000)&&aT e.sl (aL s)then
    .dyn (cg ti.size (opnd e x)) fun v=>{ ent:=⟨.loc (aL s) 0,none⟩,ls:=kp (aL s) (aa v) [] 0 ti.size,lb:=some (aL s,ti.size) }
   else .bad
def kR(told:Bool)(e:Env)(gid:Nat)(x:Operand):Act1:=match x with
 |.tmp t=>.stat { ent:=e.get t }
 |x=>bif bu x then(bif told then .stat (.ofV .hn)else .stat (.own (.sl []) gid none))else .stat (.ofV (opnd e x))
def kP(x:Ent):Bool:=match x.v with
 |.loc _ _=>true
 |.val _=>false
def Kf:AV->M AV
 |.iface t v=>jY (.iface t v)
 |_=>gU
def isLit:Operand->Bool
 |.const _=>true
 |_=>false
def uq(T:TT)(op:BinOp)(t:TypeId)(x y:Operand):Bool:=
 (match op with|.eql|.neq=>true|_=>false)&&(match T t with|some ti=>(match ti.kind with|.iface=>true|_=>false)|none=>false)&&!(isLit x)&&!(isLit y)
def nN(cx:Cx)(e:Env)(d:Option Tmp)(t:TypeId)(m k x:Operand):Act1:=match d with
 |none=>.dyn (oG cx.T t (opnd e m) (opnd e k) (opnd e x)) .ofV
 |some _=>.bad
def B9(T:TT)(t:TypeId)(z:Nat):Bool:=match dN T t with
 |some m=>Nat.beq z m
 |none=>false
def qm(cx:Cx)(e:Env)(gid:Nat)(t:TypeId)(x:Operand)(lo hi mx:Option Operand):Act1:=match x with
 | .tmp s=>(match (e.get s).g with
  |none=>.bad
  | some g=>(match aP e.al g with
   | some (some z)=>bif B9 cx.T t z&&hi.isNone&&mx.isNone then
     .dyn (bP (GM cx.T t (opnd e x) (lo.map (opnd e)))) fun v=>{ Upd.own v gid (some z)with drop:=some g }
    else .bad
   |_=>.bad))
 |_=>.bad
def vg(cx:Cx)(p:Nat):Bool:=dP cx.ann.sl1 p||dP cx.ann.sl0 p
def mc(T:TT)(last:Bool)(t:TypeId)(a v:AV):M AV:=fun h=>match a with
 |.hp l off=>bif Nat.beq (l+1) h.length== last then bS T t (.hp l off) v h else .fail
 |_=>.fail
def xt(cx:Cx)(e:Env)(t:TypeId)(p:Nat)(y:Operand):Act1:=match (e.get p).v with
 |.loc _ _=>.bad
 |.val a=>.dyn (mc cx.T (dP cx.ann.sl1 p) t a (opnd e y)) .ofV
def gS(cx:Cx)(e:Env)(gid:Nat)(o:Oper):Act1:=
 match o.op with
 |.move x=>kR (bL cx.ann.hb o.dst) e gid x
 |.assign x=>kR (bL cx.ann.hb o.dst) e gid x
 |.pick c a b=>.dyn (bP (gx (opnd e c) (opnd e a) (opnd e b))) .ofV
 |.box t x=>match o.dst with
  |none=>.bad
  |some s=>nM cx e s t x
 |.alloc t=>match o.dst with
  |none=>.bad
  |some s=>fR cx e gid s t
 | .load t x=>match x with
  | .tmp p=>match jy cx.ann.lm o.dst with
   |some (m,r)=>(match (e.get p).v with
    |.loc _ _=>.bad
    |.val a=>.dyn (fP cx.T m r t a) .ofV)
   |none=>bif bL cx.ann.nl o.dst&&kP (e.get p)then .bad else bif bL cx.ann.fz o.dst then Np (bL cx.ann.hb o.dst) (fc cx e o.dst t p)else fc cx e o.dst t p
  |.global g=>.dyn (bP (ax cx.T t (opnd e (.global g)))) .ofV
  |_=>.bad
 |.store t x y=>match x,o.dst with
  |.tmp p,none=>bif vg cx p then xt cx e t p y else bif dP cx.ann.lw p&&!(kP (e.get p))then .bad else gX cx e gid t p y
  |_,_=>.bad
 |.build t parts=>.dyn (bP (cG cx.T (bL cx.ann.hb o.dst) t (parts.toList.map fun p=>(p.1,opnd e p.2)))) .ofV
 |.buildSlice t n parts=>bif bL cx.ann.ha o.dst then .dyn (qK cx.T t n (parts.toList.map fun p=>(p.1,opnd e p.2))) .ofV else .dyn (bP (aQ cx.T t n (parts.toList.map fun p=>(p.1,opnd e p.2)))) fun v=>bif bL cx.ann.no o.dst then .ofV v else .own v gid none
 | .nilCheck x=>match x with
  |.tmp p=>match (e.get p).v with
   |.loc _ _=>.stat { ent:=e.get p }
   |.val a=>.dyn (bP (kq a)) .ofV
  |_=>.bad
 |.binOp op t x y _=>bif uq cx.T op t x y then .bad else .dyn (bP (cF cx.T op t (uQ e x) (uQ e y))) .ofV
 |.unOp op _ x=>.dyn (bP (KC op (opnd e x))) .ofV
 |.convert s t x=>.dyn (bP (GL cx.T s t (opnd e x))) .ofV
 |.makeInterface t x=>.dyn (bP (l7 cx.T t (opnd e x))) .ofV
 |.makeFunc f a c=>.stat (.ofV (.fn f (a.toList.map (opnd e)) (c.toList.map (opnd e))))
 |.makeSlice t n c=>bif bL cx.ann.ha o.dst then .dyn (qe cx.T t (opnd e n) (opnd e c)) .ofV else .dyn (bP (hJ cx.T t (opnd e n) (opnd e c))) fun v=>.own v gid (dN cx.T t)
 |.slice t x lo hi mx=>bif bL cx.ann.so o.dst then qm cx e gid t x lo hi mx else
  .dyn (bP (bif bL cx.ann.hb o.dst then rF cx.T t (opnd e x) (lo.map (opnd e)) (hi.map (opnd e)) (mx.map (opnd e))else da cx.T t (opnd e x) (lo.map (opnd e)) (hi.map (opnd e)) (mx.map (opnd e)))) fun v=>bif mx.isSome then .own v gid none else .ofV v
 |.fieldAddr t x f=>match x with
  |.tmp p=>kv cx e t p f
  |_=>.bad
 |.indexAddr t x i=>match x with
  |.tmp p=>eV cx e t p i
  |.global g=>.dyn (bP (aA cx.T t (opnd e (.global g)) (opnd e i))) .ofV
  |_=>.bad
 |.field t x f=>.dyn (bP (pj cx.T t (opnd e x) f)) .ofV
 |.index t x i=>.dyn (bP (jb cx.T t (opnd e x) (opnd e i))) .ofV
 |.extract x i=>.dyn (bP (dy (opnd e x) i)) .ofV
 |.panic x=>.dyn (Kf (opnd e x)) .ofV
 |.call c=>ib cx e gid o c
 |.makeMap _ r=>bif r.isSome then .bad else .dyn ga .ofV
 |.lookup t x i ok=>.dyn (ec cx.T t (opnd e x) (opnd e i) ok) .ofV
 |.mapUpdate t m k x=>nN cx e o.dst t m k x
 |.insert t m k x=>nN cx e o.dst t m k x
 |.range t x=>.dyn (yO cx.T t (opnd e x)) .ofV
 |.entry x=>.dyn (tP (opnd e x)) .ofV
 |_=>.bad
def aO(e:Env)(d:Option Tmp):Act1->M Env
 |.bad=>gU
 |.stat u=>ao (e.upd d u)
 |.dyn m sh=>au m fun v=>ao (e.upd d (sh v))
 |.thr v=>jY v
def bF(cx:Cx)(e:Env)(gid:Nat)(o:Oper):M Env:=aO e o.dst (gS cx e gid o)
def guardOf(ops:Array Oper)(i:Nat):Option (Nat×Bool):=match ops[i]? with
 |some o=>o.guard
 |none=>none
def Eh:Option (Nat×Bool)->Option (Nat×Bool)->Bool
 |none,none=>true
 |some (a,x),some (b,y)=>Nat.beq a b&&(x== y)
 |_,_=>false
def eP(ops:Array Oper):List Nat->List (Option (Nat×Bool)×List Nat)
 |[]=>[]
 |i:: is=>match eP ops is with
  |(g,js):: r=>bif Eh (guardOf ops i) g then(g,i:: js):: r else(guardOf ops i,[i]):: (g,js):: r
  |[]=>[(guardOf ops i,[i])]
def ic(o:Oper):List Nat:=o.op.operands.toList.filterMap fun|.tmp t=>some t|_=>none
def dZ(ops:Array Oper)(i:Nat):List Nat:=match ops[i]? with
 |none=>[]
 |some o=>(match o.guard with
  |some (j,_)=>(match (ops[j]?).bind (·.dst)with|some t=>[t]|none=>[])
  |none=>[])++ic o
def dI(ops:Array Oper)(i:Nat):Option Nat:=(ops[i]?).bind (·.dst)
def dM(ops:Array Oper)(is:List Nat):List Nat:=is.filterMap (dI ops)
def CZ(ops:Array Oper)(gs:List (Option (Nat×Bool)×List Nat))(t:Nat):Bool:=
 gs.any fun g=>g.2.any fun i=>dP (dZ ops i) t
def ez(ops:Array Oper)(is:List Nat)(gs:List (Option (Nat×Bool)×List Nat)):List Nat:=(dM ops is).filter (CZ ops gs)
def forget(e:Env):List Nat->Env
 |[]=>e
 |t:: ts=>(forget e ts).set t Ent.none
def iL(e:Env)(vs:List AV)(i:Nat):List Nat->Env
 |[]=>e
 |t:: ts=>(iL e vs (i+1) ts).set t ⟨.val (ab vs i),none⟩
structure Foot where
 rl:Bool:=false
 wl:Bool:=false
 rh:Bool:=false
 wh:Bool:=false
 piv:Bool:=false
 ad:Bool:=false
 dr:Bool:=false
 nw:Bool:=false
def az(cx:Cx)(o:Oper):Foot:=match o.op with
 |.move x=>{ ad:=bu x }
 |.assign x=>{ ad:=bu x }
 |.load ..=>match jy cx.ann.lm o.dst with
  |some _=>{ rh:=true }
  |none=>{ rl:=!(bL cx.ann.nl o.dst),rh:=bL cx.ann.hl o.dst,wh:=bL cx.ann.fz o.dst }
 |.store _ x y=>bif (match x with|.tmp p=>vg cx p|_=>false)then{ wh:=true }else{ wl:=true,wh:=!(match x with|.tmp p=>dP cx.ann.lw p|_=>false),ad:=(match x with|.tmp p=>!(fW cx.ann.nils p).isEmpty|_=>false)||bu y }
 |.alloc _=>match o.dst with
  |some s=>(match dl cx.ann.kinds s .L with|.F=>{}|.H=>{ wh:=true }|.B=>{ wh:=true }|_=>{ wl:=true,ad:=!(fW cx.ann.nils s).isEmpty })
  |none=>{}
 |.box ..=>match o.dst with
  |some s=>(match dl cx.ann.kinds s .F with|.F=>{}|.H=>{ wh:=true }|.B=>{ wh:=true }|_=>{ wl:=true })
  |none=>{}
 |.buildSlice ..=>bif bL cx.ann.ha o.dst then{ wh:=true }else{ ad:=!(bL cx.ann.no o.dst) }
 |.makeSlice ..=>bif bL cx.ann.ha o.dst then{ wh:=true }else{ ad:=true }
 |.slice _ _ _ _ mx=>bif bL cx.ann.so o.dst then{ ad:=true,dr:=true }else{ ad:=mx.isSome }
 |.panic _=>{ wh:=true,piv:=true }
 |.makeMap ..=>{ wh:=true }
 |.lookup ..=>{ rh:=true }
 |.mapUpdate ..=>{ wh:=true }
 |.insert ..=>{ wh:=true }
 |.range ..=>{ wh:=true }
 |.entry ..=>{ rh:=true }
 |.call c=>match c.callee with
  |.builtin .clear=>{ wh:=true }
  |.value (.func f)=>bif cx.iso f then{ ad:=(cx.own f).isSome }else{ wh:=true,piv:=true,nw:=cx.nw f&&!(bL cx.ann.fz o.dst),ad:=(cx.own f).isSome }
  |.value _=>{ wh:=true,piv:=true }
  |.builtin .append=>bif bL cx.ann.ha o.dst then{ wh:=true,dr:=true }else{ ad:=true,rh:=bL cx.ann.hl o.dst,dr:=match c.args.toList with|x:: _=>!bu x|[]=>false }
  |_=>{}
 |_=>{}
def cT(o:Oper):Option Nat:=match o.op with
 |.store _ (.tmp p) _=>some p
 |_=>none
def gI(cx:Cx)(o:Oper):Bool:=!(az cx o).wl&&!(az cx o).dr
def jl(u:Upd):Upd:={ ent:=⟨u.ent.v,none⟩ }
def jX:Act1->Act1
 |.bad=>.bad
 |.stat u=>.stat (jl u)
 |.dyn m sh=>.dyn m fun v=>jl (sh v)
 |.thr v=>.thr v
def po(x:Ent):Bool:=match x.v with
 |.val _=>true
 |.loc _ _=>false
section
variable {ρ:Type}
def pP(e:Env)(d:Option Tmp)(a:Act1)(k:Env->M ρ):M ρ:=match a with
 |.bad=>gU
 |.stat u=>k (e.upd d u)
 |.dyn m sh=>au m fun v=>k (e.upd d (sh v))
 |.thr v=>jY v
def lr(cx:Cx)(base:Nat)(ops:Array Oper)(st:Bool):List Nat->Env->(Env->M ρ)->M ρ
 |[],e,k=>k e
 |i:: is,e,k=>match ops[i]? with
  |none=>gU
  |some o=>pP e o.dst (bif st then jX (gS cx e ((base+i)*1000) o)else gS cx e ((base+i)*1000) o) fun e'=>lr cx base ops st is e' k
def fN(cx:Cx)(base:Nat)(ops:Array Oper):List (Option (Nat×Bool)×List Nat)->Env->(Env->M ρ)->M ρ
 |[],e,k=>k e
 |(none,is):: gs,e,k=>lr cx base ops false is e fun e'=>fN cx base ops gs e' k
 | (some (j,want),is):: gs,e,k=>
  match dI ops j with
  |none=>gU
  | some t=>
   let outs:=ez ops is gs
   bif (is.all fun i=>match ops[i]? with|some o=>gI cx o&&o.dst.isSome|none=>false)&&!(dP (dM ops is) t)then
    au (aK (e.av t) want outs.length (lr cx base ops true is e fun e'=>bif outs.all (fun t=>po (e'.get t))then ao (outs.map e'.av)else gU)) fun vs=>
     fN cx base ops gs (iL (forget e (dM ops is)) vs 0 outs) k
   else gU
end
def clash:Option Nat->Option Nat->Bool
 |some s,some t=>Nat.beq s t
 |_,_=>false
def Rx(o:Oper):Bool:=match o.op with
 |.load _ (.tmp _)=>true
 |_=>false
def Rw(o:Oper):Bool:=match o.op with
 |.alloc _=>o.guard.isNone
 |_=>false
def Bc(cx:Cx)(a b:Oper):Bool:=match a.op,b.op,a.dst,b.dst,a.guard,b.guard with
 |.store _ (.tmp p) _,.store _ (.tmp q) _,none,none,none,none=>(dP cx.ann.sl1 p&&!(dP cx.ann.sl1 q)&&dP cx.ann.sl0 q)||(dP cx.ann.sl1 q&&!(dP cx.ann.sl1 p)&&dP cx.ann.sl0 p)
 |_,_,_,_,_,_=>false
def Bv(cx:Cx)(a b:Oper):Bool:=match a.op,b.op,a.dst,b.dst,a.guard,b.guard with
 |.alloc _,.alloc _,some s,some t,none,none=>!(Nat.beq s t)&&decide (s<1000)&&decide (t<1000)&&(az cx a).wl&&(az cx b).wl&&(fW cx.ann.nils s).isEmpty&&(fW cx.ann.nils t).isEmpty
 |_,_,_,_,_,_=>false
def uA(cx:Cx)(a b:Oper):Bool:=match a.op,b.op,a.dst,b.dst,a.guard,b.guard with
 | .load _ (.tmp p),.call c,some s,some t,none,none=>(match c.callee with
  |.value (.func _)=>!(Nat.beq s t)&&!(Nat.beq t p)&&decide (s<1000)&&decide (t<1000)&&!(dP (ic b) s)&&!(bL cx.ann.fz b.dst) &&
   (match jy cx.ann.lm a.dst,jy cx.ann.cm b.dst with
   |some (m,r),some (m',r')=>Nat.beq m m'&&Nat.beq r r'
   |_,_=>false)
  |_=>false)
 |_,_,_,_,_,_=>false
def p8(cx:Cx)(ops:Array Oper)(i j:Nat):Bool:=match ops[i]?,ops[j]? with
 |some a,some b=>
  let x:=az cx a;let y:=az cx b
  Bc cx a b||Bv cx a b||uA cx a b||!x.piv&&!(x.wl&&(y.rl||y.wl))&&!(x.rl&&y.wl&&!(Rx a&&Rw b))&&!(x.wh&&(y.rh||y.wh))&&!(x.rh&&y.wh&&!y.nw) &&
  !(x.dr&&(y.dr||y.ad))&&!(x.ad&&y.dr)&&!(x.ad&&y.ad&&(x.wl||y.wl)) &&
  !(bL (dZ ops j) a.dst)&&!(bL (dZ ops i) b.dst)&&!(bL (dZ ops j) (cT a))&&!(bL (dZ ops i) (cT b)) &&
  !(clash (cT a) b.dst)&&!(clash a.dst (cT b))&&!(clash a.dst b.dst)
 |_,_=>false
def lH(acc:List Nat):List Edge->Nat
 |[]=>0
 |x:: xs=>bif Region.binds .any x then lH acc xs ||| 2 ^ x.on ||| acc.getD x.on 0 else lH acc xs
def BH:List Oper->List Nat->List Nat
 |[],acc=>acc
 |o:: os,acc=>BH os (acc++[lH acc o.after.toList])
def mR(cx:Cx)(ops:Array Oper)(bf:List Nat):List Nat->Bool
 |[]=>true
 |i:: is=>!((bf.getD i 0).testBit i)&&(is.all fun j=>!((bf.getD i 0).testBit j)&&((bf.getD j 0).testBit i||p8 cx ops i j))&&mR cx ops bf is
def HY(n:Nat)(ord:List Nat):Bool:=Nat.beq ord.length n&&((List.range n).all fun i=>dP ord i)
def distinct:List Nat->Bool
 |[]=>true
 |i:: is=>!(dP is i)&&distinct is
def lO(n:Nat)(ops:Array Oper):Bool:=ops.all fun o=>(match o.dst with|some t=>decide (t<n)|none=>true)&&(ic o).all fun t=>decide (t<1000)
def dz{α:Type}(m:M α):M α:=fun h=>match m h with
 |.ok a h'=>.ok a h'
 |.pan _ _=>.fail
 |.fail=>.fail
def gM(cx:Cx):Cx:={ cx with call:=fun f args=>bif cx.iso f then dz (cx.call f args)else cx.call f args }
def pf(cx:Cx)(ops:Array Oper)(ord:List Nat):Bool:=
 HY ops.size ord&&distinct ord&&(ord.all fun i=>decide (i<ops.size))&&(BH ops.toList []).all (fun m=>decide (m<2 ^ ops.size))&&mR cx ops (BH ops.toList []) ord
def xu(cx:Cx)(id n:Nat):List Nat:=match G5 cx.ann.ords id with
 |some l=>l
 |none=>List.range n
def rU{ρ:Type}(cx:Cx)(id:Nat)(ops:Array Oper)(draw:Bool)(e:Env)(k:Env->M ρ):M ρ:=
 bif lO cx.nt ops then
  (bif draw then
   (bif pf cx ops (xu cx id ops.size)then fN (gM cx) e.nx ops (eP ops (xu cx id ops.size)) e fun e'=>k { e' with nx:=e.nx+ops.size }else gU)
  else fN cx e.nx ops (eP ops (List.range ops.size)) e fun e'=>k { e' with nx:=e.nx+ops.size })
 else gU
noncomputable def qT{ρ:Type}(cx:Cx)(id:Nat)(ops:Array Oper)(draw:Bool)(e:Env)(k:Env->M ρ):M ρ:=rU cx id ops draw e k
def jH(e:Env):List (Nat×Option Nat)->List Nat->Option (List AV)
 |[],_=>some []
 | (t,none):: r,used=>match (e.get t).v with
  |.val a=>match jH e r used with
   |some vs=>some (a:: vs)
   |none=>none
  |.loc _ _=>none
 | (t,some sz):: r,used=>match (e.get t).v,(e.get t).g with
  | .val a,some g=>match aP e.al g with
   |none=>none
   | some z=>bif (match z with|none=>true|some n=>Nat.beq n sz)&&!(dP used g)then
     match jH e r (g:: used)with
     |some vs=>some (a:: vs)
     |none=>none
    else none
  |_,_=>none
def uD(e:Env):List (Nat×Nat×Nat)->Bool
 |[]=>true
 |(t,B,off):: r=>(match (e.get t).v with
  |.loc B' off'=>Nat.beq B B'&&Nat.beq off off'
  |.val _=>false)&&uD e r
def AC(e:Env):List (Nat×Nat)->Bool
 |[]=>true
 |(B,n):: r=>(match ba e.lb B with
  |some m=>Nat.beq n m
  |none=>false)&&AC e r
def pack(ja:JA)(e:Env):Option (List AV):=
 bif uD e ja.locs&&AC e ja.lbs then jH e ja.vals []else none
def dK(vs:List AV):Nat->List (Nat×Option Nat)->List (Nat×Ent)
 |_,[]=>[]
 |i,(t,none):: r=>(t,⟨.val (ab vs i),none⟩):: dK vs (i+1) r
 |i,(t,some _):: r=>(t,⟨.val (ab vs i),some i⟩):: dK vs (i+1) r
def mf:Nat->List (Nat×Option Nat)->List (Nat×Option Nat)
 |_,[]=>[]
 |i,(_,none):: r=>mf (i+1) r
 |i,(_,some sz):: r=>(i,some sz):: mf (i+1) r
def unpack(ja:JA)(vs:List AV):Env:=
 { sl:=dK vs 0 ja.vals++ja.locs.map (fun x=>(x.1,⟨.loc x.2.1 x.2.2,none⟩)),al:=mf 0 ja.vals,nx:=ja.vals.length,lb:=ja.lbs }
def sV:Code->Option Nat
 |.cond (.tmp t) _ _=>some t
 |.seq _ y=>sV y
 |.block id _=>some (1000000+id)
 |_=>none
abbrev bk(ρ:Type):=((List AV->M ρ)->List AV->M ρ)->List AV->M ρ
def Wg(vs:List AV):M (List AV):=fun h=>.ok (vs.map (frz 6 h)) (h.map fun _=>[])
def vC{ρ:Type}(ja:JA)(j:List AV->M ρ)(e:Env):M ρ:=match pack ja e with
 |some vs=>bif ja.fz then au (Wg vs) j else j vs
 |none=>gU
section
variable {ρ:Type}
noncomputable def ev(cx:Cx)(fx:bk ρ):Code->Env->(Env->M ρ)->(Nat->Env->M ρ)->(Env->M ρ)->M ρ
 |.skip,e,kn,_,_=>kn e
 |.region id ops draw,e,kn,_,_=>qT cx id ops draw e kn
 |.seq x y,e,kn,kx,kr=>
  match (match sV x with|some t=>tU cx.ann.joins t|none=>none)with
  |some ja=>jn (fun vs=>ev cx fx y (unpack ja vs) kn kx kr) fun j=>ev cx fx x e (vC ja j) kx kr
  |none=>ev cx fx x e (fun e'=>ev cx fx y e' kn kx kr) kx kr
 |.cond (.tmp t) x y,e,kn,kx,kr=>bif decide (t<1000)then aC (e.av t) (ev cx fx x e kn kx kr) (ev cx fx y e kn kx kr)else gU
 |.cond (.const v) x y,e,kn,kx,kr=>aC (cA v) (ev cx fx x e kn kx kr) (ev cx fx y e kn kx kr)
 |.block id (.loop b),e,kn,kx,kr=>
  match tU cx.ann.loops id with
  |none=>gU
  |some ja=>vC ja (fx fun self vs=>ev cx fx b (unpack ja vs) (vC ja self) (fun i e'=>bif Nat.beq i id then kn e' else kx i e') kr) e
 |.block id c,e,kn,kx,kr=>ev cx fx c e kn (fun i e'=>bif Nat.beq i id then kn e' else kx i e') kr
 |.exit id,e,_,kx,_=>kx id e
 |.ret,e,_,_,kr=>kr e
 |_,_,_,_,_=>gU
end
def A4(T:TT)(e:Env):ResultVar->Option AV
 |.tmp t=>bif decide (t<1000)then(match (e.get t).v with
  |.val a=>some a
  |.loc _ _=>none)else none
 | .cell p t=>bif decide (p<1000)then(match (e.get p).v,T t with
  | .loc B off,some ti=>bif kZ e B off ti.size then
    (bif ti.agg then some (.agg (m0 e (B+off) ti.size))else bif decide (ti.size=1)then some (e.av (B+off))else none)
   else none
  |.val a,some _=>ax T t a
  |_,_=>none)else none
def jh(T:TT)(e:Env):List ResultVar->Option (List AV)
 |[]=>some []
 |r:: rs=>match A4 T e r,jh T e rs with
  |some v,some vs=>some (v:: vs)
  |_,_=>none
def oU:List AV->AV
 |[v]=>v
 |vs=>.tup vs
def yL(fn:Func)(e:Env)(sz:Nat):Bool:=match fn.results.toList with
 |[.tmp t]=>decide (t<1000)&&(match (e.get t).g with
  |some g=>(match aP e.al g with|some z=>y9 z (some sz)|none=>false)
  |none=>false)
 |_=>false
def mb(cx:Cx)(fn:Func)(own:Option Nat)(e:Env):M AV:=
 bif (match own with|some sz=>yL fn e sz|none=>true)then au (bP ((jh cx.T e fn.results.toList).map oU)) (bif cx.ann.rz then(bif own.isSome then fun _=>gU else DI)else ao)else gU
def zy:Nat->List AV->List (Nat×Ent)
 |_,[]=>[]
 |i,a:: as=>(i,⟨.val a,none⟩):: zy (i+1) as
def sQ(args:List AV):Env:={ sl:=zy 0 args,al:=[],nx:=0,lb:=[] }
def p9(n:Nat)(ks:List (Nat×Kind)):Bool:=ks.all fun x=>!(Fh x.2)||decide (x.1<n)
noncomputable def bX(cx:Cx)(fx:bk AV)(fn:Func)(own:Option Nat)(args:List AV):M AV:=
 match fn.body with
 |none=>gU
 | some c=>bif decide (args.length<=fn.ntmps)&&decide (fn.ntmps<=1000)&&p9 cx.nt cx.ann.kinds then
   ev cx fx c (sQ args) (mb cx fn own) (fun _ _=>gU) (mb cx fn own)
  else gU
def vY(m:List AV->M AV)(args:List AV):M AV:=fun h=>match m (fp aF args) []with
 |.ok r h'=>.ok (frz 6 h' r) h
 |.pan v h'=>.pan (frz 6 h' v) h
 |.fail=>.fail
structure Pg where
 T:TT
 funcs:FuncId->Option (Func×Ann)
 own:FuncId->Option Nat
 other:FuncId->Option ((FuncId->List AV->M AV)->List AV->M AV)
 nw:FuncId->Bool:=fun _=>false
def Pg.iso(p:Pg)(f:FuncId):Bool:=match p.other f with
 |some _=>false
 |none=>match p.funcs f with
  |some (_,a)=>a.iso
  |none=>false
def Pg.cx(p:Pg)(call:FuncId->List AV->M AV)(n:Nat)(a:Ann):Cx:={ T:=p.T,call,own:=p.own,iso:=p.iso,nw:=p.nw,nt:=n,ann:=a }
noncomputable def lq(p:Pg)(call:FuncId->List AV->M AV)(fx:bk AV)(f:FuncId)(args:List AV):M AV:=
 match p.other f with
 |some E=>E call args
 |none=>match p.funcs f with
  |none=>gU
  |some (fn,a)=>bif a.iso then vY (bX (p.cx call fn.ntmps a) fx fn (p.own f)) args else bX (p.cx call fn.ntmps a) fx fn (p.own f) args
noncomputable def eu(p:Pg):Nat->FuncId->List AV->M AV
 |0,_,_=>gU
 |n+1,f,args=>lq p (eu p n) (dh n) f args
def kindOf:TypeDesc->TK
 |.bool=>.bool
 |.int k=>.int k
 |.string=>.str
 |.slice e=>.slice e
 |.struct _=>.struct
 |.array n e=>.array n e
 |.interface _=>.iface
 |.pointer _=>.ptr
 |.func _ _ _=>.func
 |.map k e=>.map k e
 |_=>.other
def wo:TypeDesc->Bool
 |.struct _=>true
 |.array _ _=>true
 |_=>false
def pu:TypeDesc->List (Nat×Nat×Bool)
 |.struct fs=>fs.toList.map fun f=>(f.offset,f.type,decide (f.name≠ "_"))
 |_=>[]
def Gj:Value->Bool
 |.agg _=>true
 |_=>false
def yr(P:Program)(t:TypeId):TypeDesc->Bool
 |.struct _=>!(P.stoodInHeld t)&&!(P.eqGuardType P.depth t)
 |_=>false
def Oe(P:Program)(t:TypeId):Option TI:=
 match P.info? t,P.underlying t with
 | some i,some d=>match i.zero with
  | some z=>bif Nat.beq z.cells.size i.size&&(Gj z== wo d)then
    some { agg:=wo d,size:=i.size,bytes:=i.bytes,kind:=kindOf d,offs:=pu d,zero:=z.cells.toList.map Dm,eqok:=yr P t d }
   else none
  |none=>none
 |_,_=>none
structure TOK (P:Program) (T:TT):Prop where
 ok:∀t ti,T t=some ti->Oe P t=some ti
 mix:P.follows .mixedOrders=true
structure TIok (P:Program) (t:TypeId) (ti:TI):Prop where
 ex:∃i d z,P.info? t=some i/\P.underlying t=some d/\i.zero=some z/\z.cells.size=i.size/\i.size=ti.size/\i.bytes=ti.bytes/\
  kindOf d=ti.kind/\wo d=ti.agg/\pu d=ti.offs/\z.cells.toList.map Dm=ti.zero/\yr P t d=ti.eqok/\
  (ti.agg=true->∃cs,z= .agg cs)/\(ti.agg=false->∀cs,z≠.agg cs)
theorem TOK.get{P:Program}{T:TT}(h:TOK P T){t:TypeId}{ti:TI}(ht:T t=some ti):TIok P t ti:=by
 have:=h.ok t ti ht
 unfold Oe at this;split at this
 ·rename_i i d hi hd;split at this
  ·rename_i z hz;cases hb:(Nat.beq z.cells.size i.size&&(Gj z== wo d))with
   |false=>grind
   | true=>
    rw[hb]at this;simp only[Xw,Xq]at this;subst this;rw[Xu]at hb;obtain⟨h1,h2⟩:=hb;have h2:Gj z=wo d:=by simpa using h2
    refine⟨i,d,z,hi,hd,hz,Nat.eq_of_beq_eq_true h1,rfl,rfl,rfl,rfl,rfl,rfl,rfl,fun hx=>?_,fun hx cs hz'=>?_⟩
    ·simp only[<- h2]at hx;cases z<;>simp_all[Gj]
    grind [Gj]
  ·simp at this
 ·simp at this
def xW(S:aD)(β:List cE)(v:Value):VR S β (Dm v) v:=by
 unfold Dm;split<;>simp only[VR,cJ,Yi]
 all_goals grind
theorem xX(S:aD)(β:List cE)(vs:List Value):bB S β (vs.map Dm) vs:=by
 induction vs with
 |nil=>simp[bB]
 |cons v vs ih=>simp only[Yf,bB];exact⟨v,vs,rfl,xW S β v,ih⟩
def O7(S:aD)(β:List cE)(v:Value):VR S β (cA v) v:=by
 unfold cA;split
 ·grind [VR,xX]
 ·rename_i vs;cases h:vs.isEmpty with
  |false=>simp[VR]
  |true=>
   simp_all[VR,bB]
 ·exact xW S β v
def vK(P:Program)(w:World)(S:aD)(β:List cE)(m:Sem Value)(r:AV):Prop:=∃v,m.run P w= .ok v w/\VR S β r v
section
variable {P:Program} {T:TT} {w:World} {S:aD} {β:List cE}
theorem run_sizeOf{t:TypeId}{i:TypeInfo}(h:P.info? t=some i):(sizeOf t).run P w= .ok i.size w:=by
 simp[sizeOf,typeInfo,h]
theorem jj{t:TypeId}{d:TypeDesc}(h:P.underlying t=some d):(isAgg t).run P w= .ok (wo d) w:=by
 simp only[isAgg,Sem.run_bind,run_underlying h,Result.andThen_ok];cases d<;>rfl
theorem VR.int_inv{k:IntKind}{n:Int}{v:Value}(h:VR S β (.int k n) v):v= .int k n:=by simpa [VR]using h
theorem Kh{c a b r:AV}{vc va vb:Value}(h:gx c a b=some r)(hc:VR S β c vc)(ha:VR S β a va)(hb:VR S β b vb):
  ∃v,(do pure (if <- asBool vc then va else vb):Sem Value).run P w= .ok v w/\VR S β r v:=by
 unfold gx at h;split at h
 all_goals simp_all[VR,asBool]
theorem qp(hT:TOK P T){t:TypeId}{ti:TI}(ht:T t=some ti){cs:List AV}{vs:List Value}(h:bB S β cs vs){off:Nat}{r:AV}(hr:sy ti cs off=some r):vK P w S β (part t vs.toArray off) r:=by
 obtain⟨i,d,z,hi,hd,_,_,hsz,_,_,hag,_⟩:=(hT.get ht).ex;unfold sy at hr;cases ha:ti.agg with
 | true=>
  rw[ha]at hr;simp only[Xw,Xq]at hr;subst hr;refine⟨.agg (vs.toArray.extract off (off+ti.size)),?_,?_⟩
  ·simp_all[part,jj,run_sizeOf]
  ·simp only[VR];refine⟨(vs.drop off).take ti.size,?_,(h.drop off).take _⟩
   grind
 |false=>
  rw[ha]at hr;simp only[XD]at hr;obtain⟨v,hv,hR⟩:=h.get hr;refine⟨v,?_,hR⟩;simp_all[part,jj]
theorem vB:∀a b:List UInt8,Op.bytesLess a b=bU a b
 |a,[]=>by grind [Op.bytesLess,bU]
 |[],_:: _=>rfl
 |a:: x,b:: y=>by simp[Op.bytesLess,bU,vB x y]
theorem zM{a b:ByteArray}:(a.data.toList=b.data.toList)↔a=b:=by
 constructor
 ·intro h;cases a;simp_all
 grind
mutual
theorem tQ(hT:TOK P T):(d:Nat)->(D:Nat)->d<=D->(t:TypeId)->(x y:AV)->(vx vy:Value)->(b:Bool)->qR T d t x y=some b->VR S β x vx->VR S β y vy->
  (Op.equalIn D t vx vy).run P w= .ok b w
 |0,_,_,t,x,y,vx,vy,b,h,_,_=>by simp[qR]at h
 |d+1,0,hD,_,_,_,_,_,_,_,_,_=>ZS
 | d + 1,D+1,hD,t,x,y,vx,vy,b,h,hx,hy=>by
  unfold qR at h;cases ht:T t with
  |none=>grind
  | some ti=>
   rw[ht]at h;obtain⟨i,dd,z,hi,hd,_,_,hsz,_,hk,hag,hof,_,heq,_⟩:=(hT.get ht).ex;simp only at h;unfold Op.equalIn;simp only[Sem.run_bind,run_underlying hd,Result.andThen_ok];split at h
   case h_1=>simp at h;simp only[VR]at hx hy;subst hx hy h;cases dd<;>simp_all[kindOf]
   case h_2=>
    simp only[VR]at hx hy;subst hx hy;split at h
    ·rename_i hkk;simp at h;subst h;cases dd<;>simp_all[kindOf]
    ·simp at h
   case h_3=>
    simp only[VR]at hx hy;obtain⟨x,rfl,hx⟩:=hx;obtain⟨y,rfl,hy⟩:=hy;simp at h;subst h;have hdd:dd= .string:=by cases dd<;>simp_all[kindOf]
    grind [Sem.run_pure,beq_toListBytes,ByteArray.toList_eq]
   case h_4=>simp at h;simp only[VR]at hx hy;subst hx hy h;cases dd<;>simp_all[kindOf]
   case h_5=>simp at h;simp only[VR]at hx hy;obtain⟨_,_,_,rfl,_⟩:=hy;subst hx h;cases dd<;>simp_all[kindOf]
   case h_6=>simp at h;simp only[VR]at hx hy;obtain⟨_,_,_,rfl,_⟩:=hx;subst hy h;cases dd<;>simp_all[kindOf]
   case h_7=>simp at h;simp only[VR]at hx hy;obtain⟨_,_,_,rfl⟩:=hy;subst hx h;cases dd<;>simp_all[kindOf]
   case h_8=>simp at h;simp only[VR]at hx hy;obtain⟨_,_,_,rfl⟩:=hx;subst hy h;cases dd<;>simp_all[kindOf]
   case h_9=>simp at h;simp only[VR]at hx hy;obtain⟨_,rfl,_⟩:=hy;subst hx h;cases dd<;>simp_all[kindOf]
   case h_10=>simp at h;simp only[VR]at hx hy;obtain⟨_,rfl,_⟩:=hx;subst hy h;cases dd<;>simp_all[kindOf]
   case h_11 xs ys hkind=>
    cases hok:ti.eqok with
    |false=>grind
    | true=>
     rw[hok]at h;simp only[Xw]at h;simp only[VR]at hx hy;obtain⟨vx,rfl,hx⟩:=hx;obtain⟨vy,rfl,hy⟩:=hy;cases dd<;>simp only[kindOf,hkind,reduceCtorEq]at hk;rename_i fs;have hst:P.stoodInHeld t=false:=by
      rw[hok]at heq;simp[yr]at heq;exact heq.1
     have hfs:P.fieldsOf t=fs:=by simp[Program.fieldsOf,hd]
     have:=run_equalIn_struct (P:=P) w D t vx.toArray vy.toArray ZU hst
     unfold Op.equalIn at this;simp only[Sem.run_bind,run_underlying hd,Result.andThen_ok]at this;rw[<- hof]at h;have h2:=yq hT d D ZS fs.toList xs ys vx vy b h hx hy;simp_all
   case h_12=>simp at h;simp only[VR]at hx hy;subst hx hy h;cases dd<;>simp_all[kindOf]
   case h_13=>simp at h;simp only[VR]at hx hy;obtain⟨a,cap,rfl,h1,h2,_⟩:=hx;subst hy h;cases a<;>cases dd<;>simp_all[kindOf]
   case h_14=>simp at h;obtain⟨_,_,rfl,_⟩:=hx.hs_some;simp only[VR]at hy;subst hy h;cases dd<;>simp_all[kindOf]
   case h_15=>simp at h;simp only[VR]at hx hy;subst hx hy h;cases dd<;>simp_all[kindOf]
   grind
theorem yq(hT:TOK P T):(d:Nat)->(D:Nat)->d<=D->(fs:List Field)->(xs ys:List AV)->(vx vy:List Value)->(b:Bool)->
  Cc T d (fs.map fun f=>(f.offset,f.type,decide (f.name≠ "_"))) xs ys=some b->bB S β xs vx->bB S β ys vy->
  (Op.eqFields D vx.toArray vy.toArray fs).run P w= .ok b w
 |d,D,hD,[],xs,ys,vx,vy,b,h,_,_=>by
  simp_all[Cc,Op.eqFields]
 |0,D,hD,f:: fs,xs,ys,vx,vy,b,h,_,_=>by simp[Cc]at h
 | d + 1,D,hD,f:: fs,xs,ys,vx,vy,b,h,hx,hy=>by
  simp only[Yf,Cc]at h;unfold Op.eqFields
  by_cases hn:f.name= "_"
  ·simp only[hn,ne_eq,not_true,YO,XD]at h;simp only[hn,ne_eq,not_true,Xy];exact yq hT d D ZS fs xs ys vx vy b h hx hy
  ·simp only[ne_eq,hn,not_false_eq_true,XY,Xw]at h;simp only[ne_eq,hn,not_false_eq_true,XF];cases ht:T f.type with
   |none=>grind
   | some ti=>
    rw[ht]at h;simp only at h;split at h
    ·rename_i a c ha hc;obtain⟨va,hva,hra⟩:=qp (w:=w) (S:=S) (β:=β) hT ht hx ha;obtain⟨vc,hvc,hrc⟩:=qp (w:=w) (S:=S) (β:=β) hT ht hy hc;simp only[Sem.run_bind,hva,hvc,Result.andThen_ok];split at h
     ·rename_i he;rw[tQ hT d D ZS f.type a c va vc true he hra hrc];simp only[Result.andThen_ok,XR,Xs,Xy];exact yq hT d D ZS fs xs ys vx vy b h hx hy
     ·rename_i he;rw[tQ hT d D ZS f.type a c va vc false he hra hrc];simp_all
     ·simp at h
    ·simp at h
end
theorem MM(hT:TOK P T){op:BinOp}{t:TypeId}{x y r:AV}{vx vy:Value}(ox oy:Operand)(hlit:uq T op t ox oy=false)(h:cF T op t x y=some r)(hx:VR S β x vx)(hy:VR S β y vy):
  vK P w S β (do eqGuard op t ox oy vx vy;binOp op t vx vy) r:=by
 unfold cF at h;split at h
 ·rename_i k a k' c
  have:=hx.int_inv;subst this
  have:=hy.int_inv;subst this
  have hg:(eqGuard op t ox oy (.int k a) (.int k' c)).run P w= .ok () w:=by cases op<;>simp[eqGuard]
  unfold vK;simp only[Sem.run_bind,hg,Result.andThen_ok];cases hs:yz op with
  | true=>
   rw[hs]at h;simp only[Xw,WA]at h;split at h
   ·simp at h
   ·rename_i hc;split at h
    ·simp at h;subst h;exact⟨_,by simp[binOp,Op.shift,hc];rfl,by simp[VR]⟩
    ·simp at h;subst h;exact⟨_,by simp[binOp,Op.shift,hc];rfl,by simp[VR]⟩
    ·simp at h
  | false=>
   rw[hs]at h;simp only[XD]at h;split at h
   ·rename_i hk;subst hk;unfold Ru at h;cases op<;>simp only[yz,Bool.true_eq_false]at hs h <;>
     first
     |(simp only[Xq]at h;subst h;exact⟨_,by simp[binOp,Op.intArith,Op.intBits,Op.intCmp];rfl,by simp[VR]⟩)
     | (split at h
        ·simp at h
        ·rename_i hc;simp only[Xq]at h;subst h;simp_all[binOp,Op.intDiv,VR])
   ·simp at h
 ·rename_i a c;simp only[VR]at hx hy;obtain⟨x,rfl,hx⟩:=hx;obtain⟨y,rfl,hy⟩:=hy;have hg:(eqGuard op t ox oy (.string x) (.string y)).run P w= .ok () w:=by cases op<;>simp[eqGuard]
  unfold vK;simp only[Sem.run_bind,hg,Result.andThen_ok];have hxs:x.size=a.length:=by rw[<- hx,Yh];rfl
  have hys:y.size=c.length:=by rw[<- hy,Yh];rfl
  unfold SN at h;cases op<;>simp only[reduceCtorEq]at h
  case add=>
   split at h
   ·rename_i hle;simp only[Xq]at h;subst h;refine⟨.string (x++y),?_,?_⟩
    ·have hm:IntKind.max .i64=9223372036854775807:=ZT
     have:¬(((x.size+y.size:Nat):Int)>IntKind.max .i64):=by rw[hxs,hys,hm];omega
     simp_all[binOp,Op.stringOp]
    ·simp only[VR];simp_all
   ·simp at h
  all_goals
   simp only[Xq]at h;subst h;refine⟨_,by simp only[binOp,Op.stringOp,Sem.run_pure];rfl,?_⟩;simp only[VR,ByteArray.toList_eq,hx,hy,vB]
 ·rename_i hn1 hn2
  have key:∀b,qR T 20 t x y=some b->∀o,(o= .eql\/o= .neq)->uq T o t ox oy=false->(eqGuard o t ox oy vx vy).run P w= .ok () w/\(binOp .eql t vx vy).run P w= .ok (.bool b) w/\(binOp .neq t vx vy).run P w= .ok (.bool !b) w:=by
   intro b hb;have he:=tQ (w:=w) (S:=S) (β:=β) hT 20 Op.maxDepth ZT t x y vx vy b hb hx hy;have hb0:=hb;unfold qR at hb;cases ht:T t with
   |none=>grind
   | some ti=>
    rw[ht]at hb;simp only at hb;split at hb
    case h_1=>simp only[VR]at hx hy;subst hx hy;rintro o (rfl|rfl) _<;>simp[eqGuard,binOp,Op.equal,he]
    case h_2=>grind
    case h_3=>grind
    case h_4=>simp only[VR]at hx hy;subst hx hy;rintro o (rfl|rfl) _<;>simp[eqGuard,binOp,Op.equal,he]
    case h_5=>simp only[VR]at hx hy;obtain⟨_,_,_,rfl,_⟩:=hy;subst hx;rintro o (rfl|rfl) _<;>simp[eqGuard,binOp,Op.equal,he]
    case h_6=>simp only[VR]at hx hy;obtain⟨_,_,_,rfl,_⟩:=hx;subst hy;rintro o (rfl|rfl) _<;>simp[eqGuard,binOp,Op.equal,he]
    case h_7=>simp only[VR]at hx hy;obtain⟨_,_,_,rfl⟩:=hy;subst hx;rintro o (rfl|rfl) _<;>simp[eqGuard,binOp,Op.equal,he]
    case h_8=>simp only[VR]at hx hy;obtain⟨_,_,_,rfl⟩:=hx;subst hy;rintro o (rfl|rfl) _<;>simp[eqGuard,binOp,Op.equal,he]
    case h_9=>simp only[VR]at hx hy;obtain⟨_,rfl,_⟩:=hy;subst hx;rintro o (rfl|rfl) _<;>simp[eqGuard,binOp,Op.equal,he]
    case h_10=>simp only[VR]at hx hy;obtain⟨_,rfl,_⟩:=hx;subst hy;rintro o (rfl|rfl) _<;>simp[eqGuard,binOp,Op.equal,he]
    case h_11 xs ys hkind=>
     cases hok:ti.eqok with
     |false=>grind
     | true=>
      obtain⟨i,dd,z,hi,hd,_,_,hsz,_,hk,hag,hof,_,heq,_⟩:=(hT.get ht).ex;have hgt:P.eqGuardType P.depth t=false:=by
       rw[hok]at heq;cases dd<;>simp[yr]at heq;exact heq.2
      simp only[VR]at hx hy;obtain⟨vx,rfl,hx⟩:=hx;obtain⟨vy,rfl,hy⟩:=hy;rintro o (rfl|rfl)<;>exact fun _=>⟨run_eqGuard_agg w _ t ox oy _ _ hgt,by simp[binOp,Op.equal,he],by simp[binOp,Op.equal,he]⟩
    case h_12=>simp only[VR]at hx hy;subst hx hy;rintro o (rfl|rfl) _<;>simp[eqGuard,binOp,Op.equal,he]
    case h_13=>simp only[VR]at hx hy;obtain⟨_,_,rfl,_⟩:=hx;subst hy;simp only[XX]at he;rintro o (rfl|rfl) _<;>simp[eqGuard,binOp,Op.equal,he]
    case h_14=>obtain⟨_,_,rfl,_⟩:=hx.hs_some;simp only[VR]at hy;subst hy;rintro o (rfl|rfl) _<;>simp[eqGuard,binOp,Op.equal,he]
    case h_15 hkind=>
     simp only[VR]at hx hy;subst hx hy;rintro o (rfl|rfl) hl <;>
     ·have hc:isLit ox=true\/isLit oy=true:=by
       unfold uq at hl;rw[ht]at hl;simp only[hkind,Yw,YQ,Zu]at hl;rcases hl with(hl|hl)
       ·exact .inl hl
       ·exact .inr hl
      rcases hc with hc|hc
      ·cases ox<;>simp[isLit]at hc;simp[eqGuard,binOp,Op.equal,he]
      ·cases oy<;>simp[isLit]at hc;simp[eqGuard,binOp,Op.equal,he]
    grind
  cases op<;>simp only[reduceCtorEq]at h
  case eql=>
   rw[Ys]at h;obtain⟨b,hb,rfl⟩:=h;obtain⟨h1,h2,_⟩:=key b hb .eql (.inl rfl) hlit;exact⟨.bool b,ZW,by simp[VR]⟩
  case neq=>
   rw[Ys]at h;obtain⟨b,hb,rfl⟩:=h;obtain⟨h1,_,h2⟩:=key b hb .neq (.inr rfl) hlit;exact⟨.bool !b,ZW,by simp[VR]⟩
end
def Wf(S:aD)(w:World):Prop:=∀(b o:Nat)(v:Value),S b o=some v->w.cell? ⟨b,o,none⟩=some v
section
variable {P:Program} {T:TT} {w:World} {S:aD} {β:List cE}
theorem addr_add(b o n:Nat):(⟨b,o,none⟩:Addr).add n=⟨b,o+n,none⟩:=by
 grind [Addr.add]
theorem SR{op:UnOp}{x r:AV}{vx:Value}(h:KC op x=some r)(hx:VR S β x vx):vK P w S β (Op.unary op vx) r:=by
 unfold KC at h;split at h
 ·simp at h;subst h;simp only[VR]at hx;subst hx;exact⟨_,by simp[Op.unary];rfl,by simp[VR]⟩
 ·simp only[Xq]at h;subst h;simp only[VR]at hx;subst hx;exact⟨_,by simp only[Op.unary,Op.intArith,Sem.run_pure];rfl,by simp[VR]⟩
 ·simp at h
theorem JC(hT:TOK P T){s d:TypeId}{x r:AV}{vx:Value}(h:GL T s d x=some r)(hx:VR S β x vx):vK P w S β (convert s d vx) r:=by
 unfold GL at h;split at h
 ·rename_i si di hs hd;obtain⟨_,sd,_,_,hsd,_⟩:=(hT.get hs).ex;obtain⟨_,dd,_,_,hdd,_,_,_,_,hk,_⟩:=(hT.get hd).ex;split at h
  ·rename_i k _ n hkk;simp only[Xq]at h;subst h;simp only[VR]at hx;subst hx;cases dd<;>simp only[kindOf,hkk,reduceCtorEq,TK.int.injEq]at hk;subst hk;exact⟨_,by simp[convert,run_underlying hsd,run_underlying hdd,Conv.intToInt];rfl,by simp only[VR]⟩
  ·rename_i s hkk;simp only[Xq]at h;subst h;have hx':=hx;simp only[VR]at hx;obtain⟨y,rfl,_⟩:=hx;cases dd<;>simp only[kindOf,hkk,reduceCtorEq]at hk;refine⟨_,?_,hx'⟩;simp_all[convert,run_underlying]
  ·simp at h
 ·simp at h
theorem pS(hT:TOK P T){t f:Nat}{x r:AV}{vx:Value}(h:ah T t x f=some r)(hx:VR S β x vx):vK P w S β (Instr.fieldAt t vx f) r:=by
 unfold ah at h;split at h
 ·simp at h
 ·rename_i ti ht;obtain⟨_,d,_,_,hd,_,_,_,_,_,_,hof,_⟩:=(hT.get ht).ex;split at h
  ·simp at h
  ·rename_i o ft nm hf;rw[<- hof]at hf;obtain⟨fs,rfl⟩:∃fs,d= .struct fs:=by cases d<;>simp_all[pu]
   simp only[pu]at hf;rw[YI]at hf;cases hff:fs.toList[f]? with
   |none=>grind
   | some fd=>
    rw[hff]at hf;simp at hf;obtain⟨rfl,rfl,_⟩:=hf;have hff':fs[f]? = some fd:=by simpa using hff
    split at h
    ·simp at h
    ·rename_i fi hfi;obtain⟨ii,_,_,hii,_,_,_,hsz,_⟩:=(hT.get hfi).ex;split at h
     ·simp at h
     ·rename_i hne;have hz:¬(ii.size=0):=by rw[hsz];exact hne
      split at h
      ·simp only[Xq]at h;subst h;simp only[VR]at hx;obtain⟨b,off,vs,rfl,hv,hc⟩:=hx;refine⟨.pointer (some ⟨b,off+fd.offset,none⟩),?_,?_⟩
       ·simp_all[Instr.fieldAt,run_underlying,Instr.sureAddr,fieldPlace,run_sizeOf,addr_add]
       ·simp only[VR];refine⟨b,off+fd.offset,vs.drop fd.offset,rfl,hv.drop _,fun j v hj=>?_⟩;rw[YN]at hj
        have:=hc _ _ hj
        grind
      ·rename_i l off;simp only[Xq]at h;subst h;simp only[VR]at hx;obtain⟨b,hb,hb0,rfl⟩:=hx;refine⟨.pointer (some ⟨b.1,off+fd.offset,none⟩),?_,?_⟩
       ·simp_all[Instr.fieldAt,run_underlying,Instr.sureAddr,fieldPlace,run_sizeOf,addr_add]
       ·simp only[VR];grind
      ·simp at h
theorem zR{S:aD}{β:List cE}{b o n:Nat}{cs:List AV}{vs:List Value}(hv:bB S β cs vs)(hc:gC S b o vs):
  VR S β (.ip (cs.drop n)) (.pointer (some ⟨b,o+n,none⟩)):=by
 simp only[VR];refine⟨b,o+n,vs.drop n,rfl,hv.drop _,fun j v hj=>?_⟩;rw[YN]at hj
 have:=hc _ _ hj
 grind
theorem mK(hT:TOK P T){t:Nat}{x i r:AV}{vx vi:Value}(h:aA T t x i=some r)(hx:VR S β x vx)(hi:VR S β i vi):vK P w S β (Instr.indexAt t vx vi) r:=by
 unfold aA at h;split at h
 ·rename_i ti k n ht;simp only[VR]at hi;subst hi;obtain⟨_,d,_,_,hd,_,_,_,_,hk,_⟩:=(hT.get ht).ex;split at h
  ·-- slice,by value
   rename_i e es hkk;cases d<;>simp only[kindOf,hkk,reduceCtorEq,TK.slice.injEq]at hk;subst hk;split at h
   ·rename_i ei hei;obtain⟨ii,_,_,hii,_,_,_,hsz,_⟩:=(hT.get hei).ex;split at h
    ·simp at h
    ·rename_i hn;split at h
     ·rename_i a ha;split at h
      ·rename_i hs;simp only[Xq]at h;subst h;simp only[VR]at hx;obtain⟨ad,cap,rfl,hc,hnone,hsome⟩:=hx;have hlt:n.toNat<es.length:=by
        rcases XT n.toNat es.length with h|h
        ·exact h
        ·grind
       cases ad with
       |none=>grind
       | some q=>
        obtain⟨hq,sz,hel⟩:=hsome q rfl;obtain⟨v,hv,hvs,hvc⟩:=hel.get ha;obtain⟨h1,h2,_⟩:=hv.cells hs;have hqq:q=⟨q.block,q.off,none⟩:=by
         have:=hq ZS
         cases q;simp_all
        have hsz':sz=ei.size:=by rw[<- hvs,h1]
        refine⟨.pointer (some ⟨q.block,q.off+n.toNat*ei.size,none⟩),?_,?_⟩
        ·rw[hqq];have hcond:0<=n/\n<(es.length:Int):=ZS
         simp only[Instr.indexAt,asIntOf,Sem.run_bind,Sem.run_pure,Result.andThen_ok,run_underlying hd,YG,Xs,Xy,hcond,ZE,XF,run_sizeOf hii,hsz,addr_add]
        ·simp only[VR]
         grind
      ·simp at h
     ·simp at h
   ·simp at h
  ·-- slice in the heap
   rename_i e l off len sz ag hkk;cases d<;>simp only[kindOf,hkk,reduceCtorEq,TK.slice.injEq]at hk;subst hk;split at h
   ·rename_i ei hei;obtain⟨ii,_,_,hii,_,_,_,hsz,_⟩:=(hT.get hei).ex;split at h
    ·rename_i hc;simp only[Xq]at h;subst h;obtain⟨b,cap,hb,hb0,rfl,_⟩:=hx.hs_pos ZS;refine⟨.pointer (some ⟨b.1,off+n.toNat*ei.size,none⟩),?_,by simp only[VR];grind⟩;simp only[Instr.indexAt,asIntOf,Sem.run_bind,Sem.run_pure,Result.andThen_ok,run_underlying hd,YG,Xs,Xy,hc,ZE,XF,run_sizeOf hii,hsz,addr_add]
    ·simp at h
   ·simp at h
  ·rename_i m e cs hkk;cases d<;>simp only[kindOf,hkk,reduceCtorEq,TK.array.injEq]at hk;obtain⟨rfl,rfl⟩:=hk;split at h
   ·rename_i ei hei;obtain⟨ii,_,_,hii,_,_,_,hsz,_⟩:=(hT.get hei).ex;split at h
    ·rename_i hc;simp only[Xq]at h;subst h;simp only[VR]at hx;obtain⟨b,off,vs,rfl,hv,hcc⟩:=hx;refine⟨.pointer (some ⟨b,off+n.toNat*ei.size,none⟩),?_,zR hv hcc⟩;simp only[Instr.indexAt,asIntOf,Instr.sureAddr,Sem.run_bind,Sem.run_pure,Result.andThen_ok,run_underlying hd,hc,ZE,XF,run_sizeOf hii,hsz,addr_add]
    ·simp at h
   ·simp at h
  ·rename_i m e l off hkk;cases d<;>simp only[kindOf,hkk,reduceCtorEq,TK.array.injEq]at hk;obtain⟨rfl,rfl⟩:=hk;split at h
   ·rename_i ei hei;obtain⟨ii,_,_,hii,_,_,_,hsz,_⟩:=(hT.get hei).ex;split at h
    ·rename_i hc;simp only[Xq]at h;subst h;simp only[VR]at hx;obtain⟨b,hb,hb0,rfl⟩:=hx;refine⟨.pointer (some ⟨b.1,off+n.toNat*ei.size,none⟩),?_,by simp only[VR];grind⟩;simp only[Instr.indexAt,asIntOf,Instr.sureAddr,Sem.run_bind,Sem.run_pure,Result.andThen_ok,run_underlying hd,hc,ZE,XF,run_sizeOf hii,hsz,addr_add]
    ·simp at h
   ·simp at h
  ·simp at h
 ·simp at h
theorem pq(hT:TOK P T){t:Nat}{ti:TI}(ht:T t=some ti){b o:Nat}{vs:List Value}{cs:List AV}(hv:bB S β cs vs)(hc:∀j v,vs[j]? = some v->w.cell? ⟨b,o+j,none⟩=some v){r:AV}(hr:(bif ti.agg then(if ti.size<=cs.length then some (.agg (cs.take ti.size))else none)else cs.head?)=some r):vK P w S β (loadVar t ⟨b,o,none⟩) r:=by
 obtain⟨ii,d,_,hii,hd,_,_,hsz,_,_,hag,_⟩:=(hT.get ht).ex;cases ha:ti.agg with
 | true=>
  rw[ha]at hr;simp only[Xw]at hr;split at hr
  ·rename_i hle;simp only[Xq]at hr;subst hr;have hl:(vs.take ti.size).length=ti.size:=by simp[hv.length];omega
   have hload:=run_loadCells_list (P:=P) w ⟨b,o,none⟩ (vs.take ti.size) (fun j v hj=>by
    grind [addr_add])
   rw[hl]at hload;refine⟨.agg (vs.take ti.size).toArray,?_,?_⟩
   ·simp_all[loadVar,jj,run_sizeOf]
   ·simp only[VR];exact⟨_,rfl,hv.take _⟩
  ·simp at hr
 |false=>
  rw[ha]at hr;simp only[XD]at hr;rw[List.head?_eq_getElem?]at hr;obtain⟨v,hv',hR⟩:=hv.get hr;refine⟨v,?_,hR⟩
  have:=hc 0 v hv'
  simp_all[loadVar,jj]
theorem yE(hT:TOK P T)(hw:Wf S w){t:Nat}{x r:AV}{vx:Value}(h:ax T t x=some r)(hx:VR S β x vx):vK P w S β (Instr.loadAt t vx) r:=by
 unfold ax at h;split at h
 ·rename_i ti cs ht;simp only[VR]at hx;obtain⟨b,off,vs,rfl,hv,hc⟩:=hx;obtain⟨v,h1,h2⟩:=pq hT ht hv (fun j v hj=>hw _ _ _ (hc j v hj)) h;exact⟨v,by simp[Instr.loadAt,Instr.sureAddr,h1],h2⟩
 ·simp at h
theorem Ao(hT:TOK P T){t:Nat}{x i r:AV}{vx vi:Value}(h:jb T t x i=some r)(hx:VR S β x vx)(hi:VR S β i vi):vK P w S β (Instr.index t vx vi) r:=by
 unfold jb at h;split at h
 ·rename_i ti k n ht;simp only[VR]at hi;subst hi;obtain⟨_,d,_,_,hd,_,_,_,_,hk,_⟩:=(hT.get ht).ex;split at h
  ·rename_i s hkk;cases d<;>simp only[kindOf,hkk,reduceCtorEq]at hk;split at h
   ·simp at h
   ·rename_i hn;rw[Ys]at h;obtain⟨b,hb,rfl⟩:=h;simp only[VR]at hx;obtain⟨y,rfl,hy⟩:=hx;have hyb:y[n.toNat]? = some b:=by
     rw[<- hy]at hb;have hlt:n.toNat<y.data.size:=by
      rcases XT n.toNat y.data.size with h|h
      ·exact h
      ·grind
     have:n.toNat<y.size:=hlt;rw[getElem?_pos y n.toNat this];rw[XE (by simpa using hlt)]at hb;simp at hb;rw[<- hb];rfl
    have h0:0<=n:=ZS
    exact⟨_,by simp[Instr.index,asIntOf,run_underlying hd,h0,hyb];rfl,by simp only[VR]⟩
  ·rename_i m e cs hkk;cases d<;>simp only[kindOf,hkk,reduceCtorEq,TK.array.injEq]at hk;obtain⟨rfl,rfl⟩:=hk;split at h
   ·rename_i ei hei;obtain⟨ii,_,_,hii,_,_,_,hsz,_⟩:=(hT.get hei).ex;split at h
    ·rename_i hc;simp only[VR]at hx;obtain⟨vs,rfl,hv⟩:=hx;obtain⟨v,h1,h2⟩:=qp (w:=w) hT hei hv h;refine⟨v,?_,h2⟩;simp_all[Instr.index,asIntOf,run_underlying,run_sizeOf]
    ·simp at h
   ·simp at h
  ·simp at h
 ·simp at h
theorem G4(hT:TOK P T){t f:Nat}{x r:AV}{vx:Value}(h:pj T t x f=some r)(hx:VR S β x vx):vK P w S β (Instr.field t vx f) r:=by
 unfold pj at h;split at h
 ·rename_i ti cs ht;simp only[VR]at hx;obtain⟨vs,rfl,hv⟩:=hx;obtain⟨_,d,_,_,hd,_,_,_,_,hk,_,hof,_⟩:=(hT.get ht).ex;split at h
  ·rename_i o ft nm hkk hf;rw[<- hof]at hf;obtain⟨fs,rfl⟩:∃fs,d= .struct fs:=by cases d<;>simp_all[pu]
   simp only[pu]at hf;rw[YI]at hf;cases hff:fs.toList[f]? with
   |none=>grind
   | some fd=>
    rw[hff]at hf;simp at hf;obtain⟨rfl,rfl,_⟩:=hf;have hff':fs[f]? = some fd:=by simpa using hff
    split at h
    ·rename_i fi hfi;obtain⟨v,h1,h2⟩:=qp (w:=w) hT hfi hv h;refine⟨v,?_,h2⟩;simp_all[Instr.field,run_underlying,asAgg]
    ·simp at h
  ·simp at h
 ·simp at h
theorem NG(hT:TOK P T){t u:Nat}{x r:AV}{vx:Value}(ts:List TypeId)(xs:List Value)(h:bp T t x=some r)(hx:VR S β x vx):
  vK P w S β (Builtin.len_ (t:: ts).toArray u (vx:: xs).toArray) r:=by
 unfold bp at h;split at h
 ·simp at h
 ·rename_i ti ht;obtain⟨_,d,_,_,hd,_,_,_,_,hk,_⟩:=(hT.get ht).ex;split at h<;>(try simp only[Xq,reduceCtorEq]at h)<;>(try subst h)
  ·rename_i e es hkk;simp only[VR]at hx;obtain⟨a,cap,rfl,_⟩:=hx;cases d<;>simp only[kindOf,hkk,reduceCtorEq]at hk;exact⟨_,by simp[Builtin.len_,run_underlying hd,goInt];rfl,by simp[VR]⟩
  ·rename_i hkk;obtain⟨q,cap,rfl,_⟩:=hx.hs_some;cases d<;>simp only[kindOf,hkk,reduceCtorEq]at hk;exact⟨_,by simp[Builtin.len_,run_underlying hd,goInt];rfl,by simp[VR]⟩
  ·rename_i hkk;simp only[VR]at hx;subst hx;cases d<;>simp only[kindOf,hkk,reduceCtorEq]at hk;exact⟨_,by simp[Builtin.len_,run_underlying hd,goInt];rfl,by simp[VR]⟩
  ·rename_i hkk;simp only[VR]at hx;obtain⟨_,rfl⟩:=hx;cases d<;>simp only[kindOf,hkk,reduceCtorEq]at hk;exact⟨_,by simp[Builtin.len_,run_underlying hd,goInt];rfl,by simp[VR]⟩
  ·rename_i s hkk;simp only[VR]at hx;obtain⟨y,rfl,hy⟩:=hx;cases d<;>simp only[kindOf,hkk,reduceCtorEq]at hk;refine⟨.int .i64 y.size,by simp[Builtin.len_,run_underlying hd,goInt],?_⟩;simp only[VR,<- hy,Yh];rfl
  ·rename_i n e hkk;cases d<;>simp only[kindOf,hkk,reduceCtorEq,TK.array.injEq]at hk;obtain⟨rfl,rfl⟩:=hk;exact⟨_,by simp[Builtin.len_,run_underlying hd,goInt];rfl,by simp[VR]⟩
theorem Ci{x r:AV}{i:Nat}{vx:Value}(h:dy x i=some r)(hx:VR S β x vx):vK P w S β (Instr.extract vx i) r:=by
 unfold dy at h;split at h
 ·simp only[VR]at hx;obtain⟨vs,rfl,hv⟩:=hx;obtain⟨v,h1,h2⟩:=hv.get h;exact⟨v,by simp[Instr.extract,h1],h2⟩
 ·simp at h
theorem CF(hT:TOK P T){t:Nat}{x r:AV}{vx:Value}(h:l7 T t x=some r)(hx:VR S β x vx):vK P w S β (Instr.makeInterface t vx) r:=by
 unfold l7 at h;split at h
 ·simp at h
 ·rename_i ti ht;obtain⟨_,d,_,_,hd,_,_,_,_,hk,_⟩:=(hT.get ht).ex;split at h
  ·simp at h
  ·rename_i hne;simp only[Xq]at h;subst h;refine⟨.iface t vx,?_,by simp only[VR];grind⟩;cases d<;>simp_all[Instr.makeInterface,run_underlying hd,kindOf]
theorem J7{big:Bool}{x y r:AV}{vx vy:Value}(h:HK big x y=some r)(hx:VR S β x vx)(hy:VR S β y vy):
  vK P w S β (bif big then Builtin.max2 vx vy else Builtin.min2 vx vy) r:=by
 unfold HK at h;split at h
 ·simp only[Xq]at h;subst h;simp only[VR]at hx hy;subst hx hy;cases big
  ·exact⟨_,by simp[Builtin.min2];rfl,by simp[VR]⟩
  ·exact⟨_,by simp[Builtin.max2];rfl,by simp[VR]⟩
 ·simp at h
theorem yI{big:Bool}:(n:Nat)->(xs:List AV)->xs.length<=n->(r:AV)->(vs:List Value)->ka big xs=some r->bB S β xs vs->
  ∃v rest,vs=v:: rest/\vK P w S β (rest.foldlM (bif big then Builtin.max2 else Builtin.min2) v) r
 |_,[],_,r,vs,h,_=>by simp[ka]at h
 |n,[x],_,r,vs,h,hv=>by
  simp only[ka,Xq]at h;subst h;simp only[bB]at hv;obtain⟨v,xs,rfl,hx,rfl⟩:=hv;exact⟨v,[],rfl,v,ZV,hx⟩
 |0,x:: y:: xs,hl,r,vs,h,hv=>by simp at hl
 | n+1,x:: y:: xs,hl,r,vs,h,hv=>by
  unfold ka at h;split at h
  ·rename_i z hz;simp only[bB]at hv;obtain⟨v,ys,rfl,hx,u,zs,rfl,hy,hzs⟩:=hv;obtain⟨c,hc,hcr⟩:=J7 (P:=P) (w:=w) hz hx hy;obtain⟨v',rest',he,hp⟩:=yI n (z:: xs) ZU r (c:: zs) h (by simp only[bB];grind);simp only[ZP]at he;obtain⟨rfl,rfl⟩:=he;refine⟨v,u:: zs,rfl,?_⟩;obtain⟨o,ho,hor⟩:=hp;refine⟨o,?_,hor⟩
   grind [Sem.run_bind,Result.andThen_ok]
  ·simp at h
end
section
variable {P:Program} {T:TT} {w:World} {S:aD} {β:List cE}
theorem Ba{x:AV}{v:Value}{dflt most n y:Nat}(c:BoundsCode)(hy:most<=y)(h:cw (some x) dflt most=some n)(hx:VR S β x v):(Instr.sliceBound v y c).run P w= .ok n w/\n<=most:=by
 unfold cw at h;split at h
 ·grind
 ·rename_i k m hq;cases hq;simp only[VR]at hx;subst hx;split at h
  ·rename_i hcc;simp only[Xq]at h;subst h;refine⟨?_,ZS⟩;have:0<=m/\m<=(y:Int):=ZS
   simp_all[Instr.sliceBound,asIntOf]
  ·simp at h
 ·simp at h
def kd(S:aD)(β:List cE):Option AV->Option Value->Prop
 |none,v=>v=none
 |some x,v=>∃y,v=some y/\VR S β x y
theorem fM{isSlice:Bool}{len cap:Nat}{lo hi:Option AV}{vlo vhi:Option Value}{h l:Nat}(hlo:kd S β lo vlo)(hhi:kd S β hi vhi)(hc:len<=cap)(hh:cw hi len len=some h)(hl:cw lo 0 h=some l):
  (Instr.sliceBounds isSlice len cap vlo vhi none).run P w= .ok (l,h,cap) w/\l<=h/\h<=len:=by
 cases hi with
 | none=>
  simp only[kd]at hhi;subst hhi;simp only[cw,Xq]at hh;subst hh;cases lo with
  |none=>
   simp only[kd]at hlo;subst hlo;simp only[cw,Xq]at hl;subst hl;simp_all[Instr.sliceBounds]
  |some y=>
   obtain⟨u,rfl,hu⟩:=hlo;have h1:=Ba (P:=P) (w:=w) .sliceB (Xz _) hl hu;simp_all[Instr.sliceBounds]
 | some x=>
  obtain⟨v,rfl,hv⟩:=hhi;have h2:=fun c=>Ba (P:=P) (w:=w) c hc hh hv;cases lo with
  |none=>
   simp only[kd]at hlo;subst hlo;simp only[cw,Xq]at hl;subst hl;exact⟨by simp[Instr.sliceBounds,h2],ZS,(h2 .index).2⟩
  |some y=>
   obtain⟨u,rfl,hu⟩:=hlo;have h1:=Ba (P:=P) (w:=w) .sliceB (Xz _) hl hu;exact⟨by simp[Instr.sliceBounds,h2,h1.1],h1.2,(h2 .index).2⟩
theorem BM{len cap:Nat}{lo:Option AV}{xh xm:AV}{vlo:Option Value}{vh vm:Value}{h l:Nat}(hlo:kd S β lo vlo)(hh:VR S β xh vh)(hm:VR S β xm vm)(hc:len<=cap)(h1:cw (some xh) len len=some h)(h2:cw (some xm) 0 len=some h)(hl:cw lo 0 h=some l):
  (Instr.sliceBounds true len cap vlo (some vh) (some vm)).run P w= .ok (l,h,h) w/\l<=h/\h<=len:=by
 have g2:=fun c=>Ba (P:=P) (w:=w) c hc h2 hm;have g1:(Instr.sliceBound vh h .slice3B).run P w= .ok h w:=by
  unfold cw at h1;split at h1
  ·grind
  ·rename_i k m hq;cases hq;simp only[VR]at hh;subst hh;split at h1
   ·rename_i hcc;simp only[Xq]at h1;subst h1;have:0<=m/\m<=((m.toNat:Nat):Int):=ZS
    simp_all[Instr.sliceBound,asIntOf]
   ·simp at h1
  ·simp at h1
 cases lo with
 |none=>
  simp only[kd]at hlo;subst hlo;simp only[cw,Xq]at hl;subst hl;exact⟨by simp[Instr.sliceBounds,g2,g1],ZS,(g2 .index).2⟩
 |some y=>
  obtain⟨u,rfl,hu⟩:=hlo;have h1:=Ba (P:=P) (w:=w) .slice3C (Xz _) hl hu;exact⟨by simp[Instr.sliceBounds,g2,g1,h1.1],h1.2,(g2 .index).2⟩
theorem Xf{es:List AV}{a:Option Addr}{cap l h esz:Nat}(hx:VR S β (.sl es) (.slice a es.length cap))(hlh:l<=h)(hh:h<=es.length)(hs:∀q,a=some q->h≠l->l≠0->∀sz,cJ S β es q.block q.off sz->sz=esz)(m:Nat)(hm:h<=m)(hmc:m<=cap):
  VR S β (.sl ((es.take h).drop l)) (.slice (if m=l then a else a.map (·.add (l*esz))) (h-l) (m-l)):=by
 simp only[VR]at hx |-;obtain⟨a',cap',he,hc,hnone,hsome⟩:=hx;simp only[Value.slice.injEq]at he;obtain⟨rfl,_,rfl⟩:=he;have hlen:((es.take h).drop l).length=h-l:=by simp;omega
 refine⟨_,m-l,by rw[hlen],ZU,?_,?_⟩
 ·intro hn;split at hn
  all_goals simp_all
 ·intro q hq;split at hq
  ·rename_i hml;have:h=l:=ZS
   subst this;subst hq;obtain⟨h1,_⟩:=hsome q rfl;simp_all[cJ]
  ·rw[Ys]at hq;obtain⟨q0,rfl,rfl⟩:=hq;obtain⟨h1,sz,h2⟩:=hsome q0 rfl;have hq0:q0=⟨q0.block,q0.off,none⟩:=by
    have:=h1 ZS
    cases q0;simp_all
   refine⟨fun _=>by rw[hq0,addr_add],?_⟩;by_cases hhl:h=l
   ·subst hhl;have:(es.take h).drop h=[]:=by apply XH;simp
    exact⟨1,by rw[this];simp[cJ]⟩
   ·by_cases hl0:l=0
    ·subst hl0;refine⟨sz,?_⟩;rw[hq0,addr_add];simpa using h2.take h
    ·have:=hs q0 rfl hhl hl0 sz h2
     subst this;refine⟨sz,?_⟩;rw[hq0,addr_add];exact (h2.take h).drop l
theorem extract_toList(y:ByteArray)(l h:Nat):(y.extract l h).data.toList=(y.data.toList.take h).drop l:=by
 grind [ByteArray.data_extract,Array.toList_extract,List.drop_take]
theorem M4(hT:TOK P T){t:Nat}{es:List AV}{r:AV}{lo:Option AV}{a:Option Addr}{cap:Nat}{vlo:Option Value}(h:da T t (.sl es) lo none none=some r)(hx:VR S β (.sl es) (.slice a es.length cap))(hlo:kd S β lo vlo):
  ∃l ei ti e,T t=some ti/\ti.kind= .slice e/\T e=some ei/\l<=es.length/\(Instr.sliceAt t (.slice a es.length cap) vlo none none).run P w= .ok (.slice (if cap=l then a else a.map (·.add (l*ei.size))) (es.length-l) (cap-l)) w/\
   VR S β r (.slice (if cap=l then a else a.map (·.add (l*ei.size))) (es.length-l) (cap-l)):=by
 unfold da at h;split at h
 ·simp at h
 ·rename_i ti ht;obtain⟨_,d,_,_,hd,_,_,_,_,hk,_⟩:=(hT.get ht).ex;split at h
  ·grind
  ·-- slices by value
   rename_i e es' hkk hq;simp only[AV.sl.injEq]at hq;subst hq;cases d<;>simp only[kindOf,hkk,reduceCtorEq,TK.slice.injEq]at hk;subst hk;split at h
   ·simp at h
   ·rename_i ei hei;obtain⟨ii,_,_,hii,_,_,_,hsz,_⟩:=(hT.get hei).ex;split at h
    ·simp at h
    ·rename_i hh hhe;split at h
     ·simp at h
     ·rename_i l hle;cases hck:(decide (l=0)||dn ei.size es)with
      |false=>grind
      | true=>
       rw[hck]at h;simp only[Xw,Xq]at h;subst h;have hx0:=hx;simp only[VR]at hx;obtain⟨a',cap',he,hc,hnone,hsome⟩:=hx;simp only[Value.slice.injEq]at he;obtain⟨rfl,_,rfl⟩:=he;have hhe':hh=es.length:=by simpa [cw]using hhe.symm
       subst hhe';obtain⟨hb,h1,h2⟩:=fM (P:=P) (w:=w) (isSlice:=true) hlo (hi:=none) (vhi:=none) rfl hc hhe hle;refine⟨l,ei,ti,_,ht,hkk,hei,h1,?_,?_⟩
       ·simp_all[Instr.sliceAt,run_underlying,Instr.slice,run_sizeOf]
       ·rw[Yj]at hck;rcases hck with h0|hok
        ·have h0:l=0:=by simpa using h0
         exact Xf hx0 h1 h2 (fun q _ _ hl0=>absurd h0 hl0) cap ZS (Xz _)
        ·refine Xf hx0 h1 h2 (fun q hq hne _ sz hel=>?_) cap ZS (Xz _);have hlt:l<es.length:=ZS
         obtain⟨v,hv,hvs,_⟩:=hel.get (XE hlt);have hsa:dA es[l]=some ei.size:=by
          unfold dn at hok;rw[XJ]at hok
          have:=hok _ (XG hlt)
          simp[bR]at this;exact this.1
         have:=(hv.cells hsa).1
         omega
  all_goals grind
theorem Be(hT:TOK P T){t:Nat}{x r:AV}{lo hi mx:Option AV}{vx:Value}{vlo vhi vmx:Option Value}(h:da T t x lo hi mx=some r)(hx:VR S β x vx)(hlo:kd S β lo vlo)(hhi:kd S β hi vhi)(hmx:kd S β mx vmx):
  ∃v,(Instr.sliceAt t vx vlo vhi vmx).run P w= .ok v w/\VR S β r v/\(mx.isSome=true->(∃a n,v= .slice a n n)/\∃es,r= .sl es):=by
 unfold da at h;split at h
 ·simp at h
 ·rename_i ti ht;obtain⟨_,d,_,_,hd,_,_,_,_,hk,_⟩:=(hT.get ht).ex;split at h
  ·-- strings
   rename_i s hkk;cases d<;>simp only[kindOf,hkk,reduceCtorEq]at hk;split at h
   ·simp at h
   ·simp only[kd]at hmx;subst hmx;split at h
    ·simp at h
    ·rename_i hh hhe;split at h
     ·simp at h
     ·rename_i l hle;simp only[Xq]at h;subst h;simp only[VR]at hx;obtain⟨y,rfl,hy⟩:=hx;have hsz:y.size=s.length:=by rw[<- hy,Yh];rfl
      obtain⟨hb,h1,h2⟩:=fM (P:=P) (w:=w) (isSlice:=false) hlo hhi (Xz s.length) hhe hle;refine⟨.string (y.extract l hh),?_,?_,ZV⟩
      ·simp_all[Instr.sliceAt,run_underlying,Instr.slice]
      ·simp only[VR];exact⟨_,rfl,by rw[extract_toList,hy]⟩
  ·-- slices by value
   rename_i e es hkk;cases d<;>simp only[kindOf,hkk,reduceCtorEq,TK.slice.injEq]at hk;subst hk;split at h
   ·simp at h
   ·rename_i ei hei;obtain⟨ii,_,_,hii,_,_,_,hsz,_⟩:=(hT.get hei).ex;split at h
    ·simp at h
    ·rename_i hh hhe;split at h
     ·simp at h
     ·rename_i l hle;cases hck:(decide (l=0)||dn ei.size es)with
      |false=>grind
      | true=>
       rw[hck]at h;simp only[Xw]at h;have hx0:=hx;simp only[VR]at hx;obtain⟨a,cap,rfl,hc,hnone,hsome⟩:=hx;have hstep:∀hh l m:Nat,l<=hh->hh<=es.length->hh<=m->m<=cap->(decide (l=0)||dn ei.size es)=true->
         VR S β (.sl ((es.take hh).drop l)) (.slice (if m=l then a else a.map (·.add (l*ii.size))) (hh-l) (m-l)):=by
        intro hh l m h1 h2 h3 h4 hck;rw[Yj]at hck;rcases hck with h0|hok
        ·have h0:l=0:=by simpa using h0
         exact Xf hx0 h1 h2 (fun q _ _ hl0=>absurd h0 hl0) m h3 h4
        ·refine Xf hx0 h1 h2 (fun q hq hne _ sz hel=>?_) m h3 h4;have hlt:l<es.length:=ZS
         obtain⟨v,hv,hvs,_⟩:=hel.get (XE hlt);have hsa:dA es[l]=some ei.size:=by
          unfold dn at hok;rw[XJ]at hok
          have:=hok _ (XG hlt)
          simp[bR]at this;exact this.1
         have:=(hv.cells hsa).1
         omega
       cases mx with
       |none=>
        simp only[Xq]at h;subst h;simp only[kd]at hmx;subst hmx;obtain⟨hb,h1,h2⟩:=fM (P:=P) (w:=w) (isSlice:=true) hlo hhi hc hhe hle;refine⟨_,?_,hstep hh l cap h1 h2 ZS (Xz _) hck,ZV⟩;simp_all[Instr.sliceAt,run_underlying,Instr.slice,run_sizeOf]
       | some xm=>
        obtain⟨vm,rfl,hvm⟩:=hmx;cases hi with
        |none=>simp at h
        | some xh=>
         obtain⟨vh,rfl,hvh⟩:=hhi;simp only at h;split at h
         ·rename_i m' hm' _;split at h
          ·rename_i hmh;subst hmh;simp only[Xq]at h;subst h;obtain⟨hb,h1,h2⟩:=BM (P:=P) (w:=w) hlo hvh hvm hc hhe ‹_› hle;refine⟨_,?_,hstep m' l m' h1 h2 (Xz _) ZS hck,fun _=>⟨⟨_,_,rfl⟩,_,rfl⟩⟩;simp_all[Instr.sliceAt,run_underlying,Instr.slice,run_sizeOf]
          ·simp at h
         ·simp at h
  ·-- a nil slice
   rename_i e hkk;cases d<;>simp only[kindOf,hkk,reduceCtorEq,TK.slice.injEq]at hk;subst hk;split at h
   ·simp at h
   ·rename_i ei hei;obtain⟨ii,_,_,hii,_,_,_,hsz,_⟩:=(hT.get hei).ex;split at h
    ·simp at h
    ·simp only[kd]at hmx;subst hmx;split at h
     ·simp at h
     ·rename_i hh hhe;split at h
      ·simp at h
      ·rename_i l hle;simp only[Xq]at h;subst h;simp only[VR]at hx;subst hx;obtain⟨hbd,h1,h2⟩:=fM (P:=P) (w:=w) (isSlice:=true) (len:=0) (cap:=0) hlo hhi (Xz 0) hhe hle;obtain rfl:hh=0:=ZS
       obtain rfl:l=0:=ZS
       simp_all[VR,Instr.sliceAt,run_underlying,Instr.slice,run_sizeOf]
  ·-- an empty slice without room
   rename_i e hkk;cases d<;>simp only[kindOf,hkk,reduceCtorEq,TK.slice.injEq]at hk;subst hk;split at h
   ·simp at h
   ·rename_i ei hei;obtain⟨ii,_,_,hii,_,_,_,hsz,_⟩:=(hT.get hei).ex;split at h
    ·simp at h
    ·simp only[kd]at hmx;subst hmx;split at h
     ·simp at h
     ·rename_i hh hhe;split at h
      ·simp at h
      ·rename_i l hle;simp only[Xq]at h;subst h;simp only[VR]at hx;obtain⟨a0,rfl⟩:=hx;obtain⟨hbd,h1,h2⟩:=fM (P:=P) (w:=w) (isSlice:=true) (len:=0) (cap:=0) hlo hhi (Xz 0) hhe hle;obtain rfl:hh=0:=ZS
       obtain rfl:l=0:=ZS
       refine⟨.slice a0 0 0,?_,by simp only[VR];grind,ZV⟩;simp_all[Instr.sliceAt,run_underlying,Instr.slice,run_sizeOf]
  ·-- slices in the heap
   rename_i e l0 off len sz ag hkk;cases d<;>simp only[kindOf,hkk,reduceCtorEq,TK.slice.injEq]at hk;subst hk;split at h
   ·simp at h
   ·rename_i ei hei;obtain⟨ii,_,_,hii,_,_,_,hsz,_⟩:=(hT.get hei).ex;split at h
    ·simp at h
    ·simp only[kd]at hmx;subst hmx;split at h
     ·simp at h
     ·rename_i hh hhe;split at h
      ·simp at h
      ·rename_i l hle;split at h
       ·rename_i hcond;simp only[VR]at hx;rcases hx with⟨b,cap,hb,hb0,rfl,hcap,hcs⟩|⟨h00,q0,rfl⟩
        rotate_left
        ·subst h00;obtain⟨hbd,h1,h2⟩:=fM (P:=P) (w:=w) (isSlice:=true) (len:=0) (cap:=0) hlo hhi (Xz 0) hhe hle;split at h
         ·omega
         ·simp only[Xq]at h;subst h;obtain rfl:hh=0:=ZS
          obtain rfl:l=0:=ZS
          refine⟨.slice (some q0) 0 0,?_,?_,ZV⟩
          ·simp_all[Instr.sliceAt,run_underlying,Instr.slice,run_sizeOf]
          ·simp only[VR,cJ];exact⟨_,_,rfl,XN _,(fun h=>by cases h),fun q hq=>⟨fun h=>absurd h ZS,0,trivial⟩⟩
        obtain⟨hbd,h1,h2⟩:=fM (P:=P) (w:=w) (isSlice:=true) hlo hhi hcap hhe hle;split at h
        ·rename_i hlt;simp only[Xq]at h;subst h;have hml:cap≠l:=ZS
         refine⟨.slice (some ⟨b.1,off+l*sz,none⟩) (hh-l) (cap-l),?_,?_,ZV⟩
         ·simp_all[Instr.sliceAt,run_underlying,Instr.slice,run_sizeOf,addr_add]
         ·simp only[VR];refine .inl ⟨b,cap-l,hb,hb0,rfl,ZS,?_⟩;rw[Nat.sub_mul];have:l*sz<=cap*sz:=XB _ ZS;omega
        ·rename_i hlt;simp only[Xq]at h;subst h;obtain rfl:l=hh:=ZS
         by_cases hml:cap=l
         ·refine⟨.slice (some ⟨b.1,off,none⟩) (l-l) (cap-l),?_,?_,ZV⟩
          ·simp_all[Instr.sliceAt,run_underlying,Instr.slice,run_sizeOf]
          ·simp only[VR,cJ];rw[Y9];exact⟨_,_,rfl,XN _,(fun h=>by cases h),fun q hq=>ZW⟩
         ·refine⟨.slice (some ⟨b.1,off+l*sz,none⟩) (l-l) (cap-l),?_,?_,ZV⟩
          ·simp_all[Instr.sliceAt,run_underlying,Instr.slice,run_sizeOf,addr_add]
          ·simp only[VR,cJ];rw[Y9];exact⟨_,_,rfl,XN _,(fun h=>by cases h),fun q hq=>by cases hq;simp_all⟩
       ·simp at h
  ·-- an array that is pointed to
   rename_i m e cs hkk;cases d<;>simp only[kindOf,hkk,reduceCtorEq,TK.array.injEq]at hk;obtain⟨rfl,rfl⟩:=hk;split at h
   ·rename_i ei hei;obtain⟨ii,_,_,hii,_,_,_,hsz,_⟩:=(hT.get hei).ex;simp only[kd]at hlo hhi hmx;subst hlo hhi hmx;split at h
    ·rename_i hc;obtain⟨h1,h2,h3,h4⟩:=hc;simp only[Xq]at h;subst h;simp only[VR]at hx;obtain⟨b,off,vs,rfl,hvs,hcs⟩:=hx;refine⟨.slice (some ⟨b,off,none⟩) cs.length cs.length,?_,?_,ZV⟩
     ·simp_all[Instr.sliceAt,run_underlying,Instr.sureAddr,Instr.sliceBounds,run_sizeOf,addr_add]
     ·simp only[VR];refine⟨_,_,rfl,Xz _,(fun h=>by cases h),fun q hq=>?_⟩;cases hq;refine⟨fun _=>rfl,1,.of_get fun i e he=>?_⟩;obtain⟨v,v1,v2⟩:=hvs.get he;have hs:Cq e=true:=by
       rw[XJ]at h4;exact h4 e (X8 he)
      cases e<;>simp only[Cq,Xs]at hs;simp only[VR]at v2;obtain⟨x,rfl,hx⟩:=v2;refine⟨_,⟨x,rfl,hx⟩,rfl,fun j u hu=>?_⟩;have hj:j=0:=by
       cases j with
       |zero=>rfl
       |succ j=>simp[Value.cells]at hu
      subst hj;have hu':u= .string x:=by simpa [Value.cells]using hu.symm
      subst hu';rw[Nat.mul_one,Y2];exact hcs i _ v1
    ·simp at h
   ·simp at h
  ·simp at h
theorem FK(hT:TOK P T){t:Nat}{x r:AV}{lo hi mx:Option AV}{vx:Value}{vlo vhi vmx:Option Value}(h:rF T t x lo hi mx=some r)(hx:VR S β x vx)(hlo:kd S β lo vlo)(hhi:kd S β hi vhi)(hmx:kd S β mx vmx):
  ∃v,(Instr.sliceAt t vx vlo vhi vmx).run P w= .ok v w/\VR S β r v/\(mx.isSome=true->(∃a n,v= .slice a n n)/\∃es,r= .sl es):=by
 unfold rF at h;split at h
 ·rename_i l0 off len sz ag;split at h
  ·simp at h
  ·rename_i ti ht;obtain⟨_,d,_,_,hd,_,_,_,_,hk,_⟩:=(hT.get ht).ex;split at h
   ·rename_i e hkk;cases d<;>simp only[kindOf,hkk,reduceCtorEq,TK.slice.injEq]at hk;subst hk;split at h
    ·simp at h
    ·rename_i ei hei;obtain⟨ii,_,_,hii,_,_,_,hsz,_⟩:=(hT.get hei).ex;simp only[kd]at hmx hlo;subst hmx;subst hlo;split at h
     ·simp at h
     ·rename_i hh hhe;split at h
      ·rename_i hcond;simp only[Xq]at h;subst h;have hle:cw none 0 hh=some 0:=rfl;have hlo':kd S β none none:=by simp only[kd]
       simp only[VR]at hx;rcases hx with⟨b,cap,hb,hb0,rfl,hcap,hcs⟩|⟨h00,q0,rfl⟩
       ·obtain⟨hbd,h1,h2⟩:=fM (P:=P) (w:=w) (isSlice:=true) hlo' hhi hcap hhe hle;have hhl:hh<=len:=by
         unfold cw at hhe;split at hhe
         ·grind
         ·grind
         ·simp at hhe
        refine⟨.slice (some ⟨b.1,off,none⟩) hh cap,?_,?_,ZV⟩
        ·simp_all[Instr.sliceAt,run_underlying,Instr.slice,run_sizeOf,addr_add]
        ·simp only[VR]
         grind
       ·subst h00;obtain⟨hbd,h1,h2⟩:=fM (P:=P) (w:=w) (isSlice:=true) (len:=0) (cap:=0) hlo' hhi (Xz 0) hhe hle;obtain rfl:hh=0:=ZS
        refine⟨.slice (some q0) 0 0,?_,?_,ZV⟩
        ·simp_all[Instr.sliceAt,run_underlying,Instr.slice,run_sizeOf]
        ·simp only[VR]
         grind
      ·simp at h
   ·simp at h
 ·exact Be hT h hx hlo hhi hmx
end
section
variable {P:Program} {T:TT} {w:World} {S:aD} {β:List cE}
theorem yX(cs xs:List AV)(off k:Nat)(h:off+xs.length<=cs.length):
  (setCells cs off xs)[k]? = if off<=k/\k<off+xs.length then xs[k-off]? else cs[k]?:=by
 unfold setCells;have htl:(cs.take off).length=off:=by simp;omega
 grind
theorem jW(cs xs:List AV)(off:Nat)(h:off+xs.length<=cs.length):(setCells cs off xs).length=cs.length:=by
 simp[setCells];omega
theorem foldl_set(vs:List Value):∀(k off:Nat)(cells:Array Value),
  ((vs.zipIdx k).foldl (fun cs x=>cs.setIfInBounds (off+x.2) x.1) cells).size=cells.size/\
  (off+k+vs.length<=cells.size->∀i,((vs.zipIdx k).foldl (fun cs x=>cs.setIfInBounds (off+x.2) x.1) cells)[i]? = if off+k<=i/\i<off+k+vs.length then vs[i-(off+k)]? else cells[i]?):=by
 induction vs with
 |nil=>intro k off cells;simp;omega
 |cons v vs ih=>
  intro k off cells;simp only[List.zipIdx_cons,List.foldl_cons,XX];obtain⟨h1,h2⟩:=ih (k+1) off (cells.setIfInBounds (off+k) v)
  grind
theorem bB.splice{cs xs:List AV}{vs:Array Value}{ws:List Value}{off:Nat}(h:bB S β cs vs.toList)(g:bB S β xs ws)(hle:off+xs.length<=cs.length){us:Array Value}(hs:us.size=vs.size)(hu:∀i,us[i]? = if off<=i/\i<off+ws.length then ws[i-off]? else vs[i]?):bB S β (setCells cs off xs) us.toList:=by
 have hl:=h.length;have hl2:=g.length;refine .of_get (by grind [jW]) fun i c v hc hv=>?_;rw[yX _ _ _ _ hle]at hc;rw[Zi,hu,hl2]at hv;split at hc
 ·rename_i hcc;rw[Xv hcc]at hv;obtain⟨v',h1,h2⟩:=g.get hc
  grind
 ·rename_i hcc;rw[Xr hcc]at hv;obtain⟨v',h1,h2⟩:=h.get hc
  grind
def kF(S:aD)(β:List cE):List (Nat×AV)->List (Nat×Value)->Prop
 |[],ps=>ps=[]
 |(i,a):: r,ps=>∃v ps',ps=(i,v):: ps'/\VR S β a v/\kF S β r ps'
theorem Dw{pA:Nat->Option (Nat×Nat)}{pV:Nat->Option (Nat×Nat)}(hp:∀i,pA i=pV i):∀(ps:List (Nat×AV))(qs:List (Nat×Value))(cs:List AV)(vs:Array Value)(r:List AV),
  rW pA cs ps=some r->kF S β ps qs->bB S β cs vs.toList->∃us:Array Value,Instr.fill pV vs qs=some us/\bB S β r us.toList:=by
 intro ps
 induction ps with
 |nil=>
  intro qs cs vs r h hq hv;simp only[kF]at hq;subst hq;simp only[rW,Xq]at h;subst h;exact⟨vs,rfl,hv⟩
 | cons p ps ih=>
  obtain⟨i,a⟩:=p;intro qs cs vs r h hq hv;simp only[kF]at hq;obtain⟨v,qs',rfl,hav,hq'⟩:=hq;simp only[rW]at h;unfold Instr.fill;rw[<- hp i];split at h
  ·simp at h
  ·rename_i off size hpi;rw[hpi];simp only;split at h
   ·rename_i hc;obtain⟨h1,h2,h3⟩:=hav.cells hc.1;have hvs:vs.size=cs.length:=by have:=hv.length;simpa using this
    rw[Xr ZU];obtain⟨g1,g2⟩:=foldl_set v.cells.toList 0 off vs;have hfold:v.cells.zipIdx.foldl (fun cs x=>cs.setIfInBounds (off+x.2) x.1) vs=(v.cells.toList.zipIdx 0).foldl (fun cs x=>cs.setIfInBounds (off+x.2) x.1) vs:=by
     rw[<- Array.foldl_toList];simp
    have hle:off+(aa a).length<=cs.length:=by rw[h3];exact hc.2
    exact ih qs' _ _ r h hq' (hv.splice h2 hle ZU (fun i=>ZU))
   ·simp at h
theorem vW(hT:TOK P T):∀(fs:List Field)(r:List (Nat×Nat)),kK T (fs.map fun f=>(f.offset,f.type,decide (f.name≠ "_")))=some r->
  (fs.mapM fun f=>(do pure (f.offset,<- sizeOf f.type):Sem (Nat×Nat))).run P w= .ok r w:=by
 intro fs
 induction fs with
 |nil=>simp_all[kK]
 | cons f fs ih=>
  intro r h;simp only[Yf,kK]at h;split at h
  ·rename_i ti r' ht hr;simp only[Xq]at h;subst h;obtain⟨ii,_,_,hii,_,_,_,hsz,_⟩:=(hT.get ht).ex;simp_all[run_sizeOf]
  ·simp at h
theorem vJ(hT:TOK P T){t:Nat}{ti:TI}(ht:T t=some ti)(told:Bool){i:TypeInfo}{z:Value}(hi:P.info? t=some i)(hz:i.zero=some z):bB S β (dC told ti) z.cells.toList:=by
 obtain⟨i',d,z',hi',hd,hz',_,_,_,_,_,_,hzz,_⟩:=(hT.get ht).ex;rw[hi]at hi';cases hi';rw[hz]at hz';cases hz';unfold dC;rw[<- hzz];cases told with
 |false=>exact xX S β _
 | true=>
  simp only[Xw,ZF];generalize z.cells.toList=l
  induction l with
  |nil=>simp[bB]
  | cons v l ih=>
   simp only[Yf,bB];refine⟨v,l,rfl,?_,ih⟩;simp only[Function.comp];split
   ·rename_i hv;unfold Dm at hv
    grind [VR]
   ·exact xW S β v
theorem zE(hT:TOK P T){told:Bool}{t:Nat}{parts:List (Nat×AV)}{r:AV}{qs:Array (Nat×Value)}(h:cG T told t parts=some r)(hq:kF S β parts qs.toList):
  vK P w S β (Instr.build t qs) r:=by
 unfold cG at h;split at h
 ·simp at h
 ·rename_i ti ht;obtain⟨i,d,z,hi,hd,hz,_,_,_,hk,_,hof,_⟩:=(hT.get ht).ex;have hzero:=vJ (S:=S) (β:=β) hT ht told hi hz;have hzr:(zeroValue t).run P w= .ok z w:=by simp[zeroValue,typeInfo,hi,hz]
  split at h
  ·rename_i hkk;split at h
   ·simp at h
   ·rename_i pl hpl;obtain⟨fs,rfl⟩:∃fs,d= .struct fs:=by cases d<;>simp_all[kindOf]
    rw[Ys]at h;obtain⟨cs,hcs,rfl⟩:=h;rw[<- hof]at hpl;have hm:=vW (w:=w) hT fs.toList pl hpl;have hma:(fs.mapM fun f=>(do pure (f.offset,<- sizeOf f.type):Sem (Nat×Nat))).run P w= .ok pl.toArray w:=by
     rw[ZC];simp only[Sem.run_map,hm,Result.andThen_ok]
    obtain⟨us,hus,hur⟩:=Dw (pV:=(pl.toArray[·]?)) (fun i=>ZV) parts qs.toList _ z.cells cs hcs hq hzero;refine⟨.agg us,?_,by grind [VR]⟩;simp_all[Instr.build,run_underlying]
  ·rename_i n e hkk;split at h
   ·simp at h
   ·rename_i ei hei;obtain⟨ii,_,_,hii,_,_,_,hsz,_⟩:=(hT.get hei).ex;cases d<;>simp only[kindOf,hkk,reduceCtorEq,TK.array.injEq]at hk;obtain⟨rfl,rfl⟩:=hk;rw[Ys]at h;obtain⟨cs,hcs,rfl⟩:=h;obtain⟨us,hus,hur⟩:=Dw (pV:=fun i=>some (i*ei.size,ei.size)) (fun i=>rfl) parts qs.toList _ z.cells cs hcs hq hzero;refine⟨.agg us,?_,by grind [VR]⟩;simp_all[Instr.build,run_underlying,run_sizeOf]
  ·simp at h
end
section
variable {P:Program} {T:TT} {w:World} {S:aD} {β:List cE}
def jM(S:aD)(β:List cE)(es:List AV)(c:Array Value)(sz:Nat):Prop:=
 ∀(i:Nat)(e:AV),es[i]? = some e->∃v,VR S β e v/\v.cells.size=sz/\∀(j:Nat)(x:Value),v.cells[j]? = some x->c[i*sz+j]? = some x
theorem jM.at{es:List AV}{c:Array Value}{sz b:Nat}{S':aD}(h:jM S β es c sz)(hS:S.le S')(hc:∀(o:Nat)(x:Value),c[o]? = some x->S' b o=some x):cJ S' β es b 0 sz:=by
 refine .of_get fun i e he=>?_;obtain⟨v,h1,h2,h3⟩:=h i e he;refine⟨v,h1.mono hS (il.refl β),h2,fun j x hx=>?_⟩
 grind
theorem wn(hT:TOK P T){t:Nat}{ti:TI}(ht:T t=some ti){i:TypeInfo}{z:Value}(hi:P.info? t=some i)(hz:i.zero=some z):VR S β (lK ti) z/\z.cells.size=ti.size:=by
 obtain⟨i',d,z',hi',hd,hz',hzs,hsz,_,_,_,_,hzz,_,hag,hna⟩:=(hT.get ht).ex;rw[hi]at hi';cases hi';rw[hz]at hz';cases hz';refine⟨?_,ZS⟩;unfold lK;cases ha:ti.agg with
 |true=>
  obtain⟨cs,rfl⟩:=hag ha;simp only[Xw,VR];refine⟨cs.toList,ZV,?_⟩;rw[<- hzz];exact xX S β _
 |false=>
  have hc:z.cells= #[z]:=by cases z<;>first|rfl|grind
  rw[hc]at hzz;simp only[XD,<- hzz];exact xW S β z
theorem sE(hT:TOK P T){t:Nat}{ti:TI}(ht:T t=some ti){i:TypeInfo}{z:Value}(hi:P.info? t=some i)(hz:i.zero=some z)(n:Nat)(zero:Array Value)(h0:n*ti.size≠0->zero=z.cells):
  jM S β (List.replicate n (lK ti)) ((Array.range (n*ti.size)).map (zero[· % zero.size]!)) ti.size:=by
 obtain⟨h1,h2⟩:=wn (S:=S) (β:=β) hT ht hi hz;intro k e he;rw[ZM]at he;split at he
 ·rename_i hk;simp only[Xq]at he;subst he;refine⟨z,h1,h2,fun j x hx=>?_⟩;have hj:j<ti.size:=by
   rcases XT j z.cells.size with h|h
   ·omega
   ·grind
  have hle:k*ti.size+j<n*ti.size:=by
   have:(k+1)*ti.size<=n*ti.size:=XB _ hk;rw[Nat.add_mul]at this;omega
  have hzero:=h0 ZS;simp_all[Nat.mod_eq_of_lt]
 ·simp at he
theorem Ck{sz:Nat}:∀(ps:List (Nat×AV))(qs:List (Nat×Value))(es r:List AV)(c:Array Value),mF sz es ps=some r->kF S β ps qs->jM S β es c sz->c.size=es.length*sz->
  ∃us:Array Value,Instr.fill (fun i=>some (i*sz,sz)) c qs=some us/\jM S β r us sz/\us.size=c.size/\r.length=es.length:=by
 intro ps
 induction ps with
 |nil=>
  intro qs es r c h hq hr hc;simp only[kF]at hq;subst hq;simp only[mF,Xq]at h;subst h;exact⟨c,rfl,hr,rfl,rfl⟩
 | cons p ps ih=>
  obtain⟨i,a⟩:=p;intro qs es r c h hq hr hc;simp only[kF]at hq;obtain⟨v,qs',rfl,hav,hq'⟩:=hq;simp only[mF]at h;split at h
  ·rename_i hcond;obtain⟨h1,h2,h3⟩:=hav.cells hcond.1;have hle:(i+1)*sz<=es.length*sz:=XB _ hcond.2;rw[Nat.add_mul]at hle;unfold Instr.fill;simp only;rw[Xr ZU];have hfold:v.cells.zipIdx.foldl (fun cs x=>cs.setIfInBounds (i*sz+x.2) x.1) c=(v.cells.toList.zipIdx 0).foldl (fun cs x=>cs.setIfInBounds (i*sz+x.2) x.1) c:=by
    rw[<- Array.foldl_toList];simp
   obtain⟨g1,g2⟩:=foldl_set v.cells.toList 0 (i*sz) c;rw[<- hfold]at g1 g2;have g2:=g2 ZU;generalize v.cells.zipIdx.foldl (fun cs x=>cs.setIfInBounds (i*sz+x.2) x.1) c=c' at g1 g2 |-;obtain⟨us,h4,h5,h6,h7⟩:=ih qs' (es.set i a) r c' h hq' (by
    intro k e he;rw[Yx]at he;split at he
    ·grind
    ·rename_i hik;obtain⟨u,hu1,hu2,hu3⟩:=hr k e he;refine⟨u,hu1,hu2,fun j x hx=>?_⟩;have hj:j<sz:=by
      rcases XT j u.cells.size with h|h
      ·omega
      ·grind
     rw[g2,Xr]
     ·grind
     ·simp only[Yh,h1,Y2];rintro⟨ha,hb⟩;rcases XT k i with hlt|hge
      ·have:(k+1)*sz<=i*sz:=XB _ hlt
       grind
      ·have:(i+1)*sz<=k*sz:=XB _ ZS
       grind) ZU
   grind
  ·simp at h
theorem oK(hT:TOK P T){t n:Nat}{parts:List (Nat×AV)}{r:AV}{qs:Array (Nat×Value)}(h:aQ T t n parts=some r)(hq:kF S β parts qs.toList):
  ∃(es:List AV)(c:Array Value)(e sz:Nat),r= .sl es/\es.length=n/\jM S β es c sz/\
   (Instr.buildSlice t n qs).run P w= .ok (.slice (some ⟨w.heap.size,0,none⟩) n n) (w.alloc (.cells c e)):=by
 unfold aQ at h;split at h
 ·simp at h
 ·rename_i ti ht;obtain⟨i,d,z,hi,hd,hz,_,_,_,hk,_,hof,_⟩:=(hT.get ht).ex;split at h
  ·rename_i e hkk;have hd':d= .slice e:=by cases d<;>simp_all[kindOf]
   subst hd';split at h
   ·simp at h
   ·rename_i ei hei;obtain⟨ii,_,zz,hii,_,hzz,hzs,hsz,_⟩:=(hT.get hei).ex;split at h
    ·rename_i hc;rw[Ys]at h;obtain⟨es,hes,rfl⟩:=h;have hzr:(zeroValue e).run P w= .ok zz w:=by simp[zeroValue,typeInfo,hii,hzz]
     have hrow:=sE (S:=S) (β:=β) hT hei hii hzz n (if n*ii.size=0 then #[]else zz.cells) (fun hne=>ZU);obtain⟨us,h1,h2,h3,h4⟩:=Ck parts qs.toList _ es _ hes hq hrow ZV;refine⟨es,us,e,ei.size,rfl,by simpa using h4,h2,?_⟩;have hbig:¬(n*ii.size>2 ^ 24):=by rw[hsz];have:=hc.1;omega
     simp only[Instr.buildSlice,Sem.run_bind,run_underlying hd,Result.andThen_ok,run_sizeOf hii,hbig,Xy];rw[hsz]at h1 |-;by_cases hz0:n*ei.size=0
     all_goals simp_all[newRow]
    ·simp at h
  ·simp at h
theorem qf(hT:TOK P T){t:Nat}{an ac r:AV}{vn vc:Value}(h:hJ T t an ac=some r)(hn:VR S β an vn)(hc:VR S β ac vc):
  ∃(es:List AV)(c:Array Value)(e sz cap:Nat),r= .sl es/\dN T t=some sz/\es.length<=cap/\c.size=cap*sz/\jM S β es c sz/\
   (Instr.makeSlice t vn vc).run P w= .ok (.slice (some ⟨w.heap.size,0,none⟩) es.length cap) (w.alloc (.cells c e)):=by
 unfold hJ at h;split at h
 ·rename_i ti n m ht;simp only[VR]at hn hc;subst hn hc;obtain⟨i,d,z,hi,hd,hz,_,_,_,hk,_,hof,_⟩:=(hT.get ht).ex;split at h
  ·rename_i e hkk;have hd':d= .slice e:=by cases d<;>simp_all[kindOf]
   subst hd';split at h
   ·simp at h
   ·rename_i ei hei;obtain⟨ii,_,zz,hii,_,hzz,hzs,hsz,hby,_⟩:=(hT.get hei).ex;split at h
    ·rename_i hcond;obtain⟨h0,h1,h2,h3,h4⟩:=hcond;simp only[Xq]at h;subst h;have hzr:(zeroValue e).run P w= .ok zz w:=by simp[zeroValue,typeInfo,hii,hzz]
     have hwn:IntKind.i64.wrap n=n:=IntWalk.i64_in n ZS;have hwm:IntKind.i64.wrap m=m:=IntWalk.i64_in m ZS;have hrow:=sE (S:=S) (β:=β) hT hei hii hzz m.toNat (if m.toNat*ii.size=0 then #[]else zz.cells) (fun hne=>ZU);refine⟨_,(Array.range (m.toNat*ei.size)).map ((if m.toNat*ii.size=0 then #[]else zz.cells)[· % (if m.toNat*ii.size=0 then #[]else zz.cells).size]!),e,ei.size,m.toNat,rfl,?_,?_,ZV,?_,?_⟩
     ·simp[dN,ht,hkk,hei]
     ·simp;omega
     ·intro i x hx;rw[ZM]at hx;split at hx
      ·exact hrow i x ZU
      ·simp at hx
     ·have ht1:¬(m<0):=ZS
      have ht2:¬(ii.bytes*m>2 ^ 48):=by rw[hby];omega
      have ht3:¬(n<0):=ZS
      have ht4:¬(n>m):=ZS
      simp only[Instr.makeSlice,Sem.run_bind,run_underlying hd,Result.andThen_ok,asInt,asIntOf,Sem.run_pure,typeInfo,run_program,hii,hwn,hwm,ht1,ht2,ht3,ht4,YO,Y3,Xs,Xy,run_askRoom,run_sizeOf hii,Zj];rw[hsz];by_cases hz0:m.toNat*ei.size=0
      all_goals simp_all[newRow]
    ·simp at h
  ·simp at h
 ·simp at h
theorem ku{sz:Nat}{a:AV}{v:Value}(h:bR sz a=true)(hv:VR S β a v):v.cells.size=sz/\bB S β (aa a) v.cells.toList/\∀x∈v.cells.toList,x.oneCell'=true:=by
 unfold bR at h;rw[Xu]at h;obtain⟨h1,h2⟩:=h;have h1:dA a=some sz:=by simpa using h1
 obtain⟨g1,g2,_⟩:=hv.cells h1;refine⟨g1,g2,fun x hx=>?_⟩;rw[XJ]at h2;obtain⟨i,hi⟩:=List.getElem?_of_mem hx;have hlt:i<(aa a).length:=by
  rw[<- g2.length];rcases XT i v.cells.toList.length with h|h
  ·exact h
  ·grind
 obtain⟨y,hy,hyr⟩:=g2.get (XE hlt);rw[hi]at hy;cases hy
 have:=h2 _ (XG hlt)
 cases hc:(aa a)[i]<;>rw[hc]at this hyr<;>simp[ay]at this<;>simp only[VR]at hyr
 case bool=>subst hyr;rfl
 case int=>subst hyr;rfl
 case nilp=>subst hyr;rfl
 case nilf=>subst hyr;rfl
 case nili=>subst hyr;rfl
 case hn=>subst hyr;rfl
 case he=>obtain⟨_,rfl⟩:=hyr;rfl
 case str=>obtain⟨_,rfl,_⟩:=hyr;rfl
 case sl=>obtain⟨_,_,rfl,_⟩:=hyr;rfl
 case ip=>obtain⟨_,_,_,rfl,_⟩:=hyr;rfl
 case hp=>obtain⟨_,_,_,rfl⟩:=hyr;rfl
 case hs=>rcases hyr with⟨_,_,_,_,rfl,_⟩|⟨_,_,rfl⟩<;>rfl
 case fn=>obtain⟨_,_,rfl,_⟩:=hyr;rfl
 case iface=>obtain⟨_,rfl,_⟩:=hyr;rfl
 case mp=>obtain⟨_,_,_,rfl⟩:=hyr;rfl
 case nilm=>subst hyr;rfl
def eJ(S:aD)(β:List cE)(es:List AV)(cs:List Value)(sz:Nat):Prop:=cs.length=es.length*sz/\jM S β es cs.toArray sz/\∀x∈cs,x.oneCell'=true
theorem eJ.nil(sz:Nat):eJ S β [] [] sz:=⟨ZV,fun i e h=>by simp at h,fun x h=>by simp at h⟩
theorem rY{sz:Nat}:∀ {es:List AV} {b off sz':Nat},cJ S β es b off sz'->dn sz es=true->∃cs:List Value,eJ S β es cs sz/\gC S b off cs
 |[],b,off,_,_,_=>⟨[],.nil sz,fun j v h=>by simp at h⟩
 | e:: es,b,off,sz',h,hok=>by
  simp only[cJ]at h;simp only[dn,XP,Xu]at hok;obtain⟨⟨v,hv,hs,hc⟩,hes⟩:=h;obtain⟨h1,h2,h3⟩:=ku hok.1 hv;have:sz'=sz:=ZS
  subst this;obtain⟨cs,⟨g1,g2,g3⟩,g4⟩:=rY hes hok.2;refine⟨v.cells.toList++cs,⟨ZU,?_,?_⟩,?_⟩
  ·intro i x hx;cases i with
   |zero=>
    grind
   |succ i=>
    simp only[Yb]at hx;obtain⟨u,u1,u2,u3⟩:=g2 i x hx
    grind
  ·grind
  ·intro j y hy;rcases XT j v.cells.toList.length with hlt|hge
   ·rw[Yv hlt]at hy;exact hc j y hy
   ·rw[XZ hge]at hy
    have:=g4 _ _ hy
    grind
theorem eJ.append{es fs:List AV}{cs ds:List Value}{sz:Nat}(h:eJ S β es cs sz)(g:eJ S β fs ds sz):eJ S β (es++fs) (cs++ds) sz:=by
 obtain⟨h1,h2,h3⟩:=h;obtain⟨g1,g2,g3⟩:=g;refine⟨ZU,fun i x hx=>?_,fun x hx=>?_⟩
 ·rcases XT i es.length with hlt|hge
  ·rw[Yv hlt]at hx;obtain⟨v,v1,v2,v3⟩:=h2 i x hx
   grind
  ·rw[XZ hge]at hx;obtain⟨v,v1,v2,v3⟩:=g2 _ x hx;refine⟨v,v1,v2,fun j y hy=>?_⟩
   have:=v3 j y hy
   simp only[Y4]at this |-;have hm:es.length*sz<=i*sz:=XB _ hge
   grind [Nat.sub_mul]
 grind
theorem jM.mono_row{es:List AV}{c d:Array Value}{sz:Nat}(h:jM S β es c sz)(hcd:∀(o:Nat)(x:Value),c[o]? = some x->d[o]? = some x):jM S β es d sz:=
 fun i e he=>let ⟨v,h1,h2,h3⟩:=h i e he;⟨v,h1,h2,fun j x hx=>hcd _ _ (h3 j x hx)⟩
theorem src_ok{a:AV}{v:Value}{es:List AV}{sz:Nat}(_hw:Wf S w)(h:gk a=some es)(hv:VR S β a v)(hok:dn sz es=true)(hs:∀s,a= .str s->sz=1):
  (Builtin.lenOf v).run P w= .ok es.length w/\∃cs:List Value,eJ S β es cs sz/\∀(w':World),(∀(b o:Nat)(x:Value),S b o=some x->w'.cell? ⟨b,o,none⟩=some x)->(Builtin.firstCells sz es.length v).run P w'= .ok cs.toArray w':=by
 unfold gk at h;split at h
 ·rename_i es0;simp only[Xq]at h;subst h;simp only[VR]at hv;obtain⟨ad,cap,rfl,hc,hn,hsm⟩:=hv;refine⟨rfl,?_⟩;cases ad with
  |none=>
   have:=hn rfl
   have he:es0=[]:=XH ZS;subst he;exact⟨[],.nil sz,fun w' _=>by simp[Builtin.firstCells]⟩
  | some q=>
   obtain⟨h1,sz',hel⟩:=hsm q rfl;obtain⟨cs,g1,g2⟩:=rY hel hok;refine⟨cs,g1,fun w' hw'=>?_⟩;refine run_firstCells_some w' sz es0.length q es0.length cap cs g1.1 fun j x hx=>?_;have h0:0<cap:=by
    rcases Yc cap with h|h
    ·have hl:es0.length=0:=ZS
     have hc0:=g1.1
     grind
    ·exact h
   have hq:q=⟨q.block,q.off,none⟩:=by
    have:=h1 h0
    cases q;simp_all
   rw[hq,addr_add];exact hw' _ _ _ (g2 j x hx)
 ·simp only[Xq]at h;subst h;simp only[VR]at hv;subst hv;exact⟨rfl,[],.nil sz,fun w' _=>by simp[Builtin.firstCells]⟩
 ·simp only[Xq]at h;subst h;simp only[VR]at hv;obtain⟨a0,rfl⟩:=hv;refine⟨rfl,[],.nil sz,fun w' _=>?_⟩;cases a0 with
  |none=>simp[Builtin.firstCells]
  |some q=>grind [run_firstCells_some]
 ·simp only[Xq]at h;subst h;simp only[VR]at hv;rcases hv with⟨_,cap,_,_,rfl,_⟩|⟨_,_,rfl⟩
  ·exact⟨rfl,[],.nil sz,fun w' _=>run_firstCells_some w' sz 0 _ 0 cap [] ZV fun j x hx=>by simp at hx⟩
  ·exact⟨rfl,[],.nil sz,fun w' _=>run_firstCells_some w' sz 0 _ 0 0 [] ZV fun j x hx=>by simp at hx⟩
 ·rename_i s;simp only[Xq]at h;subst h
  have:=hs s rfl
  subst this;simp only[VR]at hv;obtain⟨y,rfl,hy⟩:=hv;have hsz:y.size=s.length:=by rw[<- hy,Yh];rfl
  refine⟨by simp[Builtin.lenOf,hsz],s.map fun b=>.int .u8 b.toNat,⟨ZV,?_,by simp[Value.oneCell']⟩,fun w' _=>?_⟩
  ·intro i e he;rw[YI]at he;cases hb:s[i]? with
   |none=>grind
   |some b=>
    rw[hb]at he;simp only[YC,Xq]at he;subst he;refine⟨.int .u8 b.toNat,by simp[VR],rfl,fun j x hx=>?_⟩
    grind [Value.cells]
  ·have hx:(Array.map (fun b:UInt8=>Value.int IntKind.u8 (b.toNat:Int)) (y.extract 0 (s.map fun b=>AV.int IntKind.u8 (b.toNat:Int)).length).data)=(s.map fun b=>Value.int .u8 b.toNat).toArray:=by
    apply Zm;rw[Array.toList_map,extract_toList,hy];simp
   grind [Builtin.firstCells,Sem.run_pure]
 ·simp at h
end
section
variable {P:Program} {T:TT} {w:World} {S:aD} {β:List cE}
def Row(w:World)(b:Nat)(c:Array Value):Prop:=∃e:TypeId,w.heap[b]? = some (.cells c e (0,0))
theorem Row.cell{b:Nat}{c:Array Value}(h:Row w b c)(o:Nat):w.cell? ⟨b,o,none⟩=c[o]?:=by
 obtain⟨e,h⟩:=h;exact cell_of_row w b o c e _ h
def tp(w:World)(sz:Nat)(v:Value):Prop:=
 ∃a len cap,v= .slice a len cap/\len<=cap/\(a=none->cap=0)/\(len=cap\/∃b off c,a=some ⟨b,off,none⟩/\Row w b c/\off+cap*sz<=c.size)
inductive Appended (S:aD) (β:List cE) (w:World) (sz:Nat) (as bs:List AV) (vx:Value):Value->World->Prop where
 |same (h:bs=[]):Appended S β w sz as bs vx vx w
 | place (b off cap:Nat) (c:Array Value) (cs:List Value) (hv:vx= .slice (some ⟨b,off,none⟩) as.length cap) (hr:Row w b c) (hlt:as.length+bs.length<=cap) (hc:off+cap*sz<=c.size) (hb:bs≠[]) (hf:eJ S β bs cs sz):
   Appended S β w sz as bs vx (.slice (some ⟨b,off,none⟩) (as.length+bs.length) cap)
    (w.setRow b (c.toList.take (off+as.length*sz)++cs++c.toList.drop (off+as.length*sz+cs.length)).toArray)
 | fresh (c:Array Value) (e cap:Nat) (hlt:as.length+bs.length<=cap) (hc:c.size=cap*sz) (hr:jM S β (as++bs) c sz) (hb:bs≠[]):
   Appended S β w sz as bs vx (.slice (some ⟨w.heap.size,0,none⟩) (as.length+bs.length) cap) (w.drew.alloc (.cells c e))
theorem BF(hT:TOK P T)(hw:Wf S w){t u e ty:Nat}{ti ei:TI}{as bs:List AV}{vx vy:Value}(ht:T t=some ti)(hk:ti.kind= .slice e)(hei:T e=some ei)(hu:jR T u=true)(hx:VR S β (.sl as) vx)(hlen:(Builtin.lenOf vy).run P w= .ok bs.length w){cs:List Value}(hflat:eJ S β bs cs ei.size)(hfirst:∀w':World,(∀a:Addr,w'.cell? a=w.cell? a)->(Builtin.firstCells ei.size bs.length vy).run P w'= .ok cs.toArray w')(hoa:dn ei.size as=true)(hby:(as.length+bs.length)*ei.bytes<=140737488355328)(hb0:0<ei.bytes)(hroom:tp w ei.size vx):
  ∃v w',(Builtin.append_ #[t,u] ty #[vx,vy]).run P w= .ok v w'/\Appended S β w ei.size as bs vx v w':=by
 obtain⟨_,d,_,_,hd,_,_,_,_,hkd,_⟩:=(hT.get ht).ex;have hd':d= .slice e:=by cases d<;>simp_all[kindOf]
 subst hd';obtain⟨ii,_,zz,hii,_,hzz,hzs,hsz,hbb,_⟩:=(hT.get hei).ex;have hz:∃du,P.underlying u=some du/\((∃e',du= .slice e')\/du= .string):=by
  unfold jR at hu;split at hu
  ·rename_i tu htu;obtain⟨_,du,_,_,hdu,_,_,_,_,hku,_⟩:=(hT.get htu).ex;refine⟨du,hdu,?_⟩;split at hu
   ·rename_i e' hk';exact .inl ⟨e',by cases du<;>simp_all[kindOf]⟩
   ·exact .inr (by cases du<;>simp_all[kindOf])
   ·simp at hu
  ·simp at hu
 obtain⟨du,hdu,hduk⟩:=hz;obtain⟨a,len,cap,rfl,hlc,hnone,hspare⟩:=hroom;have hx0:=hx;simp only[VR]at hx;obtain⟨a',cap',he,_,_,hsome⟩:=hx;simp only[Value.slice.injEq]at he;obtain⟨rfl,rfl,rfl⟩:=he;by_cases hfit:as.length+bs.length<=cap
 ·-- in place
  by_cases hnil:bs=[]
  ·subst hnil;refine⟨.slice a as.length cap,w,?_,.same rfl⟩;have hcs:cs=[]:=XH (by have:=hflat.1;grind);subst hcs;have hf:(Builtin.firstCells ei.size 0 vy).run P w= .ok #[] w:=by simpa using hfirst w (fun _=>rfl)
   rcases hduk with⟨e',rfl⟩|rfl<;>cases a <;>
    simp[Builtin.append_,run_underlying hd,run_underlying hdu,sizeOf,typeInfo,hii,hsz,hlen,hlc,hf,storeCells]
  ·have hpos:0<bs.length:=Yp.2 hnil;rcases hspare with hsp|⟨b,off,c,rfl,⟨ce,hrow⟩,hcap⟩
   ·omega
   ·refine⟨_,_,?_,.place b off cap c cs rfl ⟨ce,hrow⟩ hfit hcap hnil hflat⟩;have hf:=hfirst w (fun _=>rfl);have hl:=hflat.1;have hle:(as.length+bs.length)*ei.size<=cap*ei.size:=XB _ hfit;rw[Nat.add_mul]at hle;have hst:=run_storeCells_at P b (off+as.length*ei.size) ce cs 0 c w hrow ZS hflat.2.2;simp only[Y2]at hst;rcases hduk with⟨e',rfl⟩|rfl <;>
     simp[Builtin.append_,run_underlying hd,run_underlying hdu,sizeOf,typeInfo,hii,hsz,hlen,hfit,hf,addr_add,hst]
 ·-- a new row
  have hne:bs≠[]:=by rintro rfl;simp at hfit;omega
  have hgt:cap<as.length+bs.length:=ZS
  have h63:¬(9223372036854775807<((as.length:Int)+(bs.length:Int))):=by
   have:=XM (ZN (as.length+bs.length) hb0) hby
   omega
  have hfit48:=growslice_fits hgt hby;have h48:¬(281474976710656<Builtin.nextslicecap (as.length+bs.length) cap*ei.bytes):=ZS
  have hb0':ei.bytes≠0:=ZS
  -- the old cells
  have hold:∃os:List Value,eJ S β as os ei.size/\(Builtin.firstCells ei.size as.length (.slice a as.length cap)).run P w.drew= .ok os.toArray w.drew:=by
   obtain⟨_,os,h1,h2⟩:=src_ok (P:=P) (es:=as) (sz:=ei.size) hw (a:=.sl as) rfl hx0 hoa (fun s h=>by cases h);exact⟨os,h1,h2 w.drew (fun b o x hx=>by simpa using hw b o x hx)⟩
  obtain⟨os,hos,hof⟩:=hold;have hf:=hfirst w.drew (fun a=>ZV);have hall:=hos.append hflat;have hcapn:as.length+bs.length<=grownCap w (as.length+bs.length) cap e:=by
   exact Nat.le_add_right _ _
  have hzcs:(Builtin.zeroCells zz.cells (grownCap w (as.length+bs.length) cap e-(as.length+bs.length))).size=(grownCap w (as.length+bs.length) cap e-(as.length+bs.length))*ei.size:=by
   rw[size_zeroCells,hzs,hsz]
  refine⟨_,_,?_,.fresh ((os++cs).toArray++Builtin.zeroCells zz.cells (grownCap w (as.length+bs.length) cap e-(as.length+bs.length))) e (grownCap w (as.length+bs.length) cap e) hcapn ?_ ?_ hne⟩
  ·rcases hduk with⟨e',rfl⟩|rfl <;>
    (simp[Builtin.append_,run_underlying hd,run_underlying hdu,sizeOf,typeInfo,zeroValue,hii,hsz,hzz,hlen,hfit,hbb,h48,hb0',Question.forced,hf,hof,newRow,grownCap]
     grind)
  ·rw[Array.size_append,hzcs]
   have:=hall.1
   simp only[List.size_toArray,this,XL];rw[<- Nat.add_mul]
   grind
  ·exact hall.2.1.mono_row fun o x hx=>by
    grind
end
inductive Owner where
 |no
 |heap (l:Nat)
 |loc (B:Nat)
 |grp (g:Nat)
class Dr where
 on:Prop
variable [Dr]
structure Gro (w w':World):Prop where
 size:w.heap.size<=w'.heap.size
 os:w'.os=w.os
 out:w'.output=w.output
 tape:w'.tape=w.tape
 cnt:Dr.on->w.drawn<=w'.drawn
theorem Gro.refl(w:World):Gro w w:=⟨Xz _,rfl,rfl,rfl,fun _=>Xz _⟩
theorem Gro.trans{a b c:World}(h:Gro a b)(g:Gro b c):Gro a c:=
 ⟨XM h.size g.size,g.os.trans h.os,g.out.trans h.out,g.tape.trans h.tape,fun d=>XM (h.cnt d) (g.cnt d)⟩
theorem Gro.drew(w:World):Gro w w.drew:=⟨Xz _,rfl,rfl,rfl,fun _=>ZV⟩
theorem Gro.alloc(w:World)(c:Array Value)(t:TypeId):Gro w (w.alloc (.cells c t)):=
 ⟨ZV,rfl,rfl,rfl,fun _=>ZV⟩
def OS(S:aD):Prop:=∀g cs,Ai g=some cs->∃vs,bB S [] cs vs/\gC S g 0 vs
omit [Dr]in
theorem OS.mono{S S':aD}(h:OS S)(hl:S.le S'):OS S':=fun g cs hg=>by
 obtain⟨vs,h1,h2⟩:=h g cs hg;exact⟨vs,bB.mono hl (il.refl []) _ _ h1,h2.mono hl⟩
structure Entry where
 w:World
 S:aD
 β:List cE
 E:Nat->Prop
 gok:GOKw w/\(∀b,b<gN->¬E b)/\OS S
def iq(S:aD)(β:List cE)(lam:Nat->Option Nat):SV->Value->Prop
 |.val a,v=>VR S β a v
 |.loc B off,v=>∃b,lam B=some b/\v= .pointer (some ⟨b,off,none⟩)
def rM(S:aD)(w:World)(ω:Nat->Owner)(g:Nat)(z:Option Nat)(v:Value):Prop:=
 ∃a len cap,v= .slice a len cap/\len<=cap/\(a=none->cap=0)/\(len=cap\/∃sz b off x,z=some sz/\a=some ⟨b,off,none⟩/\Row w b x/\off+cap*sz<=x.size/\
  ω b= .grp g/\∀o,off+len*sz<=o->S b o=none)
omit [Dr]in
theorem yH{x:AV}{cs xs:List AV}{off:Nat}(h:x∈setCells cs off xs):x∈cs\/x∈xs:=by
 grind [setCells]
def fh(t:Nat)(cs:List AV):Prop:=∃a,a∈cs/\Bp a=some t
section
omit [Dr]
theorem fh.mono{t:Nat}{cs ds:List AV}(h:fh t cs)(g:∀a,a∈cs->a∈ds):fh t ds:=by
 obtain⟨a,h1,h2⟩:=h;exact⟨a,g a h1,h2⟩
theorem fh.append{t:Nat}{cs ds:List AV}(h:fh t (cs++ds)):fh t cs\/fh t ds:=by
 obtain⟨a,h1,h2⟩:=h;rcases Ya.1 h1 with h1|h1
 ·exact .inl ⟨a,h1,h2⟩
 ·exact .inr ⟨a,h1,h2⟩
theorem fh.cons{t:Nat}{c:AV}{ds:List AV}(h:fh t (c:: ds)):Bp c=some t\/fh t ds:=by
 obtain⟨a,h1,h2⟩:=h;rcases X7.1 h1 with rfl|h1
 ·exact .inl h2
 ·exact .inr ⟨a,h1,h2⟩
theorem fh.setCells{t:Nat}{cs xs:List AV}{off:Nat}(h:fh t (Av.setCells cs off xs)):fh t cs\/fh t xs:=by
 obtain⟨a,h1,h2⟩:=h;rcases yH h1 with h1|h1
 ·exact .inl ⟨a,h1,h2⟩
 ·exact .inr ⟨a,h1,h2⟩
theorem rn{cs:List AV}(h:cs.all ay=true)(t:Nat):¬fh t cs:=fun⟨a,h1,h2⟩=>by
 have:=XJ.1 h a h1
 cases a<;>simp[Bp]at h2<;>simp[ay]at this
theorem AW{sz:Nat}{e:AV}(h:bR sz e=true)(t:Nat):¬fh t (aa e):=by
 simp_all[bR,rn]
theorem jG{sz:Nat}{es:List AV}(h:dn sz es=true)(t:Nat):¬fh t (es.flatMap aa):=fun⟨a,h1,h2⟩=>by
 rw[List.mem_flatMap]at h1;obtain⟨e,he,hh⟩:=h1;exact AW (XJ.1 h e he) t ⟨a,hh,h2⟩
theorem Kd{cs:List AV}(h:cs.any uw=false)(t:Nat):¬fh t cs:=fun⟨a,h1,h2⟩=>by
 grind [uw]
end
def lh(S:aD)(β:List cE)(es:List AV)(ents:List MapEntry):Prop:=
 es.length=ents.length/\∀(i:Nat)(e:AV)(x:MapEntry),es[i]? = some e->ents[i]? = some x->∃k v,e= .tup [k,v]/\VR S β k x.key/\VR S β v x.val
def tr(ents:List MapEntry)(clock:Nat):Prop:=(∀x∈ents,x.born<clock)/\ents.Pairwise fun x y=>x.born≠y.born
def MapAt(S:aD)(β:List cE)(w:World)(b:Nat)(es:List AV):Prop:=
 ∃ents clock,w.heap[b]? = some (.map ents clock)/\lh S β es ents.toList/\tr ents.toList clock
def sZ(ents:List MapEntry)(seen:Array Nat):List Nat:=
 (List.range ents.length).filter fun i=>match ents[i]? with
  |some x=>!seen.contains x.born
  |none=>false
def Lf(β:List cE)(w:World)(h:Hp)(b:Nat)(cs:List AV):Prop:=
 (∃l n ps b' since seen last cur,cs=[.tup [],.mp l,.int .i64 (n:Nat),Sy ps,cur]/\β[l]? = some (b',0)/\since<=last/\w.heap[b]? = some (.mapIter (some b') since seen last)/\
  (cur= .any\/∃c:Nat,cur= .int .i64 (c:Nat))/\
  ∀es,h[l]? = some [.tup es]->n<=es.length/\(es.length=n->∃ents clock,w.heap[b']? = some (.map ents clock)/\(∀x∈ents.toList,x.born<since)/\ps=sZ ents.toList seen/\last=clock/\
   ∀c:Nat,cur= .int .i64 (c:Nat)->∃x,ents.toList[c]? = some x/\seen.back? = some x.born))\/
 (cs=[.tup [],.nilm]/\∃since seen last,w.heap[b]? = some (.mapIter none since seen last))
def xS(S:aD)(β:List cE)(w:World)(h:Hp)(b:Nat)(cs:List AV):Prop:=(∃es,cs=[.tup es]/\MapAt S β w b es)\/Lf β w h b cs
def Lg(w:World)(b:Nat)(cs:List AV):Prop:=∀t,fh t cs->∃y,w.heap[b]? = some (.cells y t (0,0))
def im(S:aD)(β:List cE)(w:World)(ω:Nat->Owner)(h:Hp):Prop:=
 ∀l cs,h[l]? = some cs->cs≠[]->(∃b x,β[l]? = some (b,x.size)/\Row w b x/\ω b= .heap l/\bB S β cs (x.toList.take cs.length)/\(∀o,S b o=none)/\Lg w b cs)\/
  (∃b,β[l]? = some (b,0)/\ω b= .heap l/\(∀o,S b o=none)/\xS S β w h b cs)
section
omit [Dr]
theorem lh.mono{S S':aD}{β β':List cE}(hS:S.le S')(hβ:il β β'){es:List AV}{ents:List MapEntry}(h:lh S β es ents):lh S' β' es ents:=
 ⟨h.1,fun i e x he hx=>by
  obtain⟨k,v,h1,h2,h3⟩:=h.2 i e x he hx
  grind [VR.mono]⟩
theorem xS.lt{S:aD}{β:List cE}{w:World}{h:Hp}{b:Nat}{cs:List AV}(H:xS S β w h b cs):b<w.heap.size:=by
 rcases H with⟨es,_,ents,clock,h1,_⟩|⟨_,_,_,_,_,_,_,_,_,_,_,h1,_⟩|⟨_,_,_,_,h1⟩<;>exact (YF.1 h1).1
theorem xS.keep{S S':aD}{β β':List cE}{w w':World}{h h':Hp}{b:Nat}{cs:List AV}(H:xS S β w h b cs)(hS:S.le S')(hβ:il β β')(hb:w'.heap[b]? = w.heap[b]?)(hm:∀(l b':Nat)(es:List AV),β[l]? = some (b',0)->h'[l]? = some [.tup es]->h[l]? = some [.tup es]/\w'.heap[b']? = w.heap[b']?):xS S' β' w' h' b cs:=by
 rcases H with⟨es,h1,ents,clock,h2,h3,h4⟩|⟨l,n,ps,b',since,seen,last,cur,h1,h2,h3,h4,hcu,h5⟩|⟨h1,since,seen,last,h2⟩
 ·exact .inl ⟨es,h1,ents,clock,hb.trans h2,h3.mono hS hβ,h4⟩
 ·refine .inr (.inl ⟨l,n,ps,b',since,seen,last,cur,h1,hβ _ _ h2,h3,hb.trans h4,hcu,fun es he=>?_⟩)
  grind
 ·exact .inr (.inr ⟨h1,since,seen,last,hb.trans h2⟩)
theorem im.rowsA{S S':aD}{β β':List cE}{w w':World}{ω ω':Nat->Owner}{h h':Hp}(H:im S β w ω h)(hS:S.le S')(hβ:il β β')(_hβl:β.length=h.length)
  (step:∀l cs,h'[l]? = some cs->cs≠[]->(h[l]? = some cs/\∀b,b<w.heap.size->(∃n,β[l]? = some (b,n))->ω b= .heap l->ω' b= .heap l/\w'.heap[b]? = w.heap[b]? /\∀o,S b o=none->S' b o=none)\/
   (∃b x,β'[l]? = some (b,x.size)/\Row w' b x/\ω' b= .heap l/\bB S' β' cs (x.toList.take cs.length)/\(∀o,S' b o=none)/\Lg w' b cs)):im S' β' w' ω' h':=by
 have hm:∀(l b':Nat)(es:List AV),β[l]? = some (b',0)->h'[l]? = some [.tup es]->h[l]? = some [.tup es]/\w'.heap[b']? = w.heap[b']?:=fun l b' es hl he=>by
  rcases step l _ he (ZV)with⟨g1,g2⟩|⟨b,x,g1,g2,g3,g4,g5⟩
  ·refine⟨g1,?_⟩;rcases H l _ g1 (ZV)with⟨b,x,k1,k2,k3,k4,k5⟩|⟨b,k1,k2,k3,k4⟩
   ·rw[hl]at k1;simp only[Xq,Ym]at k1
    have:=k4.length
    grind
   ·have k0:=k1;rw[hl]at k1;simp only[Xq,Ym]at k1;rw[k1.1];exact (g2 b k4.lt ⟨_,k0⟩ k2).2.1
  ·have:=hβ _ _ hl
   rw[g1]at this;simp only[Xq,Ym]at this;have h2:=g4.length
   grind
 intro l cs hl hne;rcases step l cs hl hne with⟨g1,g2⟩|g
 ·rcases H l cs g1 hne with⟨b,x,k1,k2,k3,k4,k5,k6⟩|⟨b,k1,k2,k3,k4⟩
  ·have hlt:b<w.heap.size:=by
    obtain⟨t,k2⟩:=k2;exact (YF.1 k2).1
   obtain⟨j1,j2,j3⟩:=g2 b hlt ⟨_,k1⟩ k3;exact .inl ⟨b,x,hβ _ _ k1,by obtain⟨t,k2⟩:=k2;exact⟨t,j2.trans k2⟩,j1,k4.mono hS hβ,fun o=>j3 o (k5 o),fun t ht=>by obtain⟨y,hy⟩:=k6 t ht;grind⟩
  ·obtain⟨j1,j2,j3⟩:=g2 b k4.lt ⟨_,k1⟩ k2;exact .inr ⟨b,hβ _ _ k1,j1,fun o=>j3 o (k3 o),k4.keep hS hβ j2 hm⟩
 ·exact .inl g
theorem im.rows{S S':aD}{β β':List cE}{w w':World}{ω ω':Nat->Owner}{h h':Hp}(H:im S β w ω h)(hS:S.le S')(hβ:il β β')(hβl:β.length=h.length)
  (step:∀l cs,h'[l]? = some cs->cs≠[]->(h[l]? = some cs/\∀b,b<w.heap.size->ω b= .heap l->ω' b= .heap l/\w'.heap[b]? = w.heap[b]? /\∀o,S b o=none->S' b o=none)\/
   (∃b x,β'[l]? = some (b,x.size)/\Row w' b x/\ω' b= .heap l/\bB S' β' cs (x.toList.take cs.length)/\(∀o,S' b o=none)/\Lg w' b cs)):im S' β' w' ω' h':=H.rowsA hS hβ hβl fun l cs hl hne=>(step l cs hl hne).imp (fun⟨g1,g2⟩=>⟨g1,fun b h1 _ h2=>g2 b h1 h2⟩) id
theorem im.own{S:aD}{β:List cE}{w:World}{ω:Nat->Owner}{h:Hp}(H:im S β w ω h){l:Nat}{cs:List AV}(hl:h[l]? = some cs)(hne:cs≠[]):
  ∃b n,β[l]? = some (b,n)/\b<w.heap.size/\ω b= .heap l/\∀o,S b o=none:=by
 rcases H l cs hl hne with⟨b,x,k1,⟨t,k2⟩,k3,_,k5,_⟩|⟨b,k1,k2,k3,k4⟩
 ·grind
 ·exact⟨b,_,k1,k4.lt,k2,k3⟩
theorem im.cells{S:aD}{β:List cE}{w:World}{ω:Nat->Owner}{h:Hp}(H:im S β w ω h){l b n:Nat}{cs:List AV}(hl:h[l]? = some cs)(hne:cs≠[])(hb:β[l]? = some (b,n))(h0:n≠0):
  ∃x,β[l]? = some (b,x.size)/\Row w b x/\ω b= .heap l/\bB S β cs (x.toList.take cs.length)/\∀o,S b o=none:=by
 rcases H l cs hl hne with⟨b',x,k1,k2,k3,k4,k5,_⟩|⟨b',k1,k2⟩
 all_goals grind
theorem im.of_row{S:aD}{β:List cE}{w:World}{ω:Nat->Owner}{h:Hp}(H:im S β w ω h){l b n:Nat}{cs:List AV}{x:Array Value}(hl:h[l]? = some cs)(hne:cs≠[])(hb:β[l]? = some (b,n))(hrow:Row w b x):
  β[l]? = some (b,x.size)/\ω b= .heap l/\bB S β cs (x.toList.take cs.length)/\∀o,S b o=none:=by
 rcases H l cs hl hne with⟨b',x',k1,⟨t',k2⟩,k3,k4,k5,_⟩|⟨b',k1,_,_,k2⟩
 ·rw[hb]at k1;simp only[Xq,Ym]at k1;obtain⟨rfl,rfl⟩:=k1;obtain⟨t,hrow⟩:=hrow
  grind
 ·rw[hb]at k1;simp only[Xq,Ym]at k1;obtain⟨rfl,_⟩:=k1;obtain⟨t,hrow⟩:=hrow;rcases k2 with⟨_,_,_,_,k,_⟩|⟨_,_,_,_,_,_,_,_,_,_,_,k,_⟩|⟨_,_,_,_,k⟩<;>(grind)
theorem im.tag{S:aD}{β:List cE}{w:World}{ω:Nat->Owner}{h:Hp}(H:im S β w ω h){l b n t:Nat}{cs:List AV}(hl:h[l]? = some cs)(ht:fh t cs)(hb:β[l]? = some (b,n)):∃y,w.heap[b]? = some (.cells y t (0,0)):=by
 rcases H l cs hl (by rintro rfl;obtain⟨_,h,_⟩:=ht;cases h)with⟨b',x,k1,_,_,_,_,k6⟩|⟨b',_,_,_,k4⟩
 ·rw[hb]at k1;simp only[Xq,Ym]at k1;rw[k1.1];exact k6 t ht
 ·rcases k4 with⟨es,h1,_⟩|⟨l',n,ps,b',since,seen,last,cur,h1,_,_,_,rfl|⟨c,rfl⟩,_⟩|⟨h1,_⟩<;>(subst h1;simp[Sy,fh,Bp]at ht)
end
def iS(c:Entry)(ω:Nat->Owner)(b:Nat):Prop:=(c.E b/\∀g,ω b≠.grp g)\/c.w.heap.size<=b
section
omit [Dr]
theorem iS.of_eq{c:Entry}{ω ω':Nat->Owner}{b:Nat}(h:iS c ω b)(he:ω' b=ω b):iS c ω' b:=
 h.imp (fun⟨h1,h2⟩=>⟨h1,fun g=>ZU⟩) id
theorem iS.of_not{c:Entry}{ω ω':Nat->Owner}{b:Nat}(h:iS c ω b)(he:∀g,ω' b≠.grp g):iS c ω' b:=h.imp (fun⟨h1,_⟩=>⟨h1,he⟩) id
theorem iS.low{c:Entry}{ω:Nat->Owner}{b:Nat}(h:iS c ω b):c.E b\/c.w.heap.size<=b:=h.imp And.left id
theorem iS.grp{c:Entry}{ω:Nat->Owner}{b g:Nat}(h:iS c ω b)(hg:ω b= .grp g):c.w.heap.size<=b:=by
 rcases h with⟨_,h⟩|h
 all_goals grind
end
structure FR (c:Entry) (N:Nat) (U:Nat->Prop) (e:Env) (h:Hp) (a:Act) (w:World) (S:aD) (β:List cE) (γ:Nat->Value) (lam:Nat->Option Nat) (ω:Nat->Owner):Prop where
 wf:Wf S w
 gro:Gro c.w w
 keep:∀b,b<c.w.heap.size->¬c.E b->w.heap[b]? = c.w.heap[b]? /\∀o,S b o=c.S b o
 le:c.S.le S
 ext:il c.β β
 hlen:β.length=h.length
 heap:im S β w ω h
 tsz:N<=a.tmps.size/\N<=1000
 slots:∀t,t<1000->iq S β lam (e.get t).v (a.tmps.getD t undef)
 grps:∀t g z,t<1000->(e.get t).g=some g->aP e.al g=some z->a.tmps.getD t undef=γ g
 lblk:∀B n,ba e.lb B=some n->B % 1000=0/\1000<=B/\n<1000/\∃b x,lam B=some b/\Row w b x/\ω b= .loc B/\(∀o,S b o=none)/\
  ∀i,i<n->∃v a',x[i]? = some v/\(e.get (B+i)).v= .val a'/\VR S β a' v/\∀g z,(e.get (B+i)).g=some g->aP e.al g=some z->v=γ g
 free:∀g z,aP e.al g=some z->rM S w ω g z (γ g)
 mine:∀b,ω b≠.no->iS c ω b/\b<w.heap.size
 used:(∀t g,(e.get t).g=some g->U g)/\(∀g z,aP e.al g=some z->U g)
theorem FR.size{c:Entry}{N:Nat}{U:Nat->Prop}{e:Env}{h:Hp}{a:Act}{w:World}{S:aD}{β:List cE}{γ:Nat->Value}{lam:Nat->Option Nat}{ω:Nat->Owner}(H:FR c N U e h a w S β γ lam ω):c.w.heap.size<=w.heap.size:=H.gro.size
theorem FR.gokw{c:Entry}{N:Nat}{U:Nat->Prop}{e:Env}{h:Hp}{a:Act}{w:World}{S:aD}{β:List cE}{γ:Nat->Value}{lam:Nat->Option Nat}{ω:Nat->Owner}(H:FR c N U e h a w S β γ lam ω):GOKw w:=
 c.gok.1.mono fun b hb=>(H.keep b (Nat.lt_of_lt_of_le hb c.gok.1.lt) (c.gok.2.1 b hb)).1
section
omit [Dr]
theorem Row.lt{w:World}{b:Nat}{x:Array Value}(h:Row w b x):b<w.heap.size:=by
 obtain⟨e,h⟩:=h
 grind
theorem Row.of_eq{w w':World}{b:Nat}{x:Array Value}(h:Row w b x)(he:w'.heap[b]? = w.heap[b]?):Row w' b x:=by
 obtain⟨e,h⟩:=h;exact⟨e,by rw[he,h]⟩
theorem Wf.lt{S:aD}{w:World}(h:Wf S w){b o:Nat}{v:Value}(hv:S b o=some v):b<w.heap.size:=block_lt_of_cell (h b o v hv)
theorem Wf.none{S:aD}{w:World}(h:Wf S w){b:Nat}(hb:w.heap.size<=b)(o:Nat):S b o=none:=by
 cases hs:S b o with
 |none=>rfl
 |some v=>have:=h.lt hs;omega
theorem cell_of_heap{w w':World}{b:Nat}(h:w'.heap[b]? = w.heap[b]?)(o:Nat):w'.cell? ⟨b,o,none⟩=w.cell? ⟨b,o,none⟩:=by
 simp[World.cell?,h]
end
section
variable {c:Entry} {N:Nat} {U:Nat->Prop} {e:Env} {h:Hp} {a:Act} {w:World} {S:aD} {β:List cE} {γ:Nat->Value} {lam:Nat->Option Nat} {ω:Nat->Owner}
theorem FR.world(H:FR c N U e h a w S β γ lam ω){w':World}{S':aD}(hw:Wf S' w')(hg:Gro w w')(hk:∀b,b<w.heap.size->w'.heap[b]? = w.heap[b]? /\∀o,S' b o=S b o)(hle:S.le S'):FR c N U e h a w' S' β γ lam ω:=by
 have hrow:∀ {b x},Row w b x->Row w' b x:=fun hr=>hr.of_eq (hk _ hr.lt).1;have hs:=hg.size;refine⟨hw,H.gro.trans hg,fun b hb hE=>?_,aD.le_trans H.le hle,H.ext,H.hlen,?_,H.tsz,?_,H.grps,?_,?_,fun b hb=>⟨(H.mine b hb).1,Nat.lt_of_lt_of_le (H.mine b hb).2 hs⟩,H.used⟩
 ·have h1:=hk b (Nat.lt_of_lt_of_le hb H.size);have h2:=H.keep b hb hE
  grind
 ·exact H.heap.rows hle (il.refl β) H.hlen fun l cs hl hne=>.inl ⟨hl,fun b hb ho=>⟨ho,(hk b hb).1,fun o h0=>ZU⟩⟩
 ·intro t ht
  have:=H.slots t ht
  cases hv:(e.get t).v with
  |val av=>rw[hv]at this;exact VR.mono hle (il.refl β) _ _ this
  |loc B off=>rw[hv]at this;exact this
 ·intro B n hB;obtain⟨h1,h2,h3,b,x,h4,h5,h6,h7,h8⟩:=H.lblk B n hB;refine⟨h1,h2,h3,b,x,h4,hrow h5,h6,fun o=>by rw[(hk b h5.lt).2];exact h7 o,fun i hi=>?_⟩;obtain⟨v,a',g1,g2,g3,g4⟩:=h8 i hi;exact⟨v,a',g1,g2,VR.mono hle (il.refl β) _ _ g3,g4⟩
 ·intro g z hg;obtain⟨a',len,cap,h1,h2,h3,h4⟩:=H.free g z hg;refine⟨a',len,cap,h1,h2,h3,h4.imp id ?_⟩;rintro⟨sz,b,off,x,g1,g2,g3,g4,g5,g6⟩;exact⟨sz,b,off,x,g1,g2,hrow g3,g4,g5,fun o ho=>by rw[(hk b g3.lt).2];exact g6 o ho⟩
theorem FR.drew(H:FR c N U e h a w S β γ lam ω):FR c N U e h a w.drew S β γ lam ω:=
 H.world (fun b o v hv=>by rw[World.cell?_drew];exact H.wf b o v hv) (Gro.drew w) (fun b _=>⟨rfl,fun _=>rfl⟩) (aD.le_refl S)
omit [Dr]in
theorem alloc_old(w:World)(o:Obj){b:Nat}(hb:b<w.heap.size):(w.alloc o).heap[b]? = w.heap[b]?:=heap_alloc_old w o hb
theorem FR.alloc(H:FR c N U e h a w S β γ lam ω)(x:Array Value)(t:TypeId):FR c N U e h a (w.alloc (.cells x t)) S β γ lam ω:=
 H.world (fun b o v hv=>by rw[cell_of_heap (alloc_old w _ (H.wf.lt hv))];exact H.wf b o v hv) (Gro.alloc w x t) (fun b hb=>⟨alloc_old w _ hb,fun _=>rfl⟩) (aD.le_refl S)
omit [Dr]in
theorem Row.new(w:World)(x:Array Value)(t:TypeId):Row (w.alloc (.cells x t)) w.heap.size x:=⟨t,heap_alloc_new w _⟩
def aD.withRowTo(S:aD)(b k:Nat)(x:Array Value):aD:=fun b' o=>if b'=b then(if o<k then x[o]? else none)else S b' o
theorem FR.allocS(H:FR c N U e h a w S β γ lam ω)(x:Array Value)(t:TypeId)(k:Nat):FR c N U e h a (w.alloc (.cells x t)) (S.withRowTo w.heap.size k x) β γ lam ω:=by
 have hn:∀o,S w.heap.size o=none:=fun o=>H.wf.none (Xz _) o;refine H.world (fun b o v hv=>?_) (Gro.alloc w x t) (fun b hb=>⟨alloc_old w _ hb,fun o=>?_⟩) (fun b o v hv=>?_)
 ·unfold aD.withRowTo at hv;split at hv
  ·simp_all
  ·rw[cell_of_heap (alloc_old w _ (H.wf.lt hv))];exact H.wf b o v hv
 ·unfold aD.withRowTo
  grind
 grind [aD.withRowTo]
section
omit [Dr]
theorem cL(e:Env)(d:Option Tmp)(u:Upd)(t:Nat):(e.upd d u).get t=if d=some t then u.ent else cD (u.ls++e.sl) t:=by
 unfold Env.upd Env.get qw;cases d with
 |none=>simp
 |some s=>
  simp_all[cD]
theorem jK(a:Act)(d:Option Tmp)(v:Value){N:Nat}(hd:∀t,d=some t->t<N)(hN:N<=a.tmps.size)(t:Nat):
  (a.put d v).tmps.getD t undef=if d=some t then v else a.tmps.getD t undef:=by
 cases d with
 |none=>simp[Act.put]
 |some s=>
  have hlt:=hd s rfl;simp only[Act.put,Xq,Yt,Array.getElem?_setIfInBounds]
  grind
theorem jw(a:Act)(d:Option Tmp)(v:Value):(a.put d v).tmps.size=a.tmps.size:=by
 cases d<;>simp[Act.put]
theorem dc(k:Nat)(x:Option Nat)(r:List (Nat×Option Nat))(g:Nat):aP ((k,x):: r) g=if k=g then some x else aP r g:=by
 simp_all[aP]
theorem np(r:List (Nat×Option Nat))(k g:Nat):aP (wO r k) g=if k=g then none else aP r g:=by
 induction r with
 |nil=>simp[wO,aP]
 | cons x r ih=>
  obtain⟨j,y⟩:=x;simp only[wO];by_cases hj:j=k
  ·simp_all[dc]
  ·have:Nat.beq j k=false:=by rw[YA];intro hh;exact hj (Nat.eq_of_beq_eq_true hh)
   simp only[this,XD,dc,ih]
   grind
end
theorem FR.set(H:FR c N U e h a w S β γ lam ω){d:Option Tmp}{x:Ent}{v:Value}(hd:∀t,d=some t->t<N)(hs:iq S β lam x.v v)(hg:∀g z,x.g=some g->aP e.al g=some z->v=γ g)(hu:∀g,x.g=some g->U g):
  FR c N U (e.upd d { ent:=x }) h (a.put d v) w S β γ lam ω:=by
 have hget:∀t,(e.upd d { ent:=x }).get t=if d=some t then x else e.get t:=fun t=>by rw[cL];rfl
 have hal:(e.upd d { ent:=x }).al=e.al:=rfl;have hlb:(e.upd d { ent:=x }).lb=e.lb:=rfl;have hdl:∀B i:Nat,1000<=B->d≠some (B+i):=fun B i hB hh=>by have h1:B+i<N:=hd _ hh;have h2:=H.tsz.2;omega
 refine⟨H.wf,H.gro,H.keep,H.le,H.ext,H.hlen,H.heap,by rw[jw];exact H.tsz,fun t ht=>?_,fun t g z ht hgg hz=>?_,fun B n hB=>?_,H.free,H.mine,⟨fun t g hgg=>?_,H.used.2⟩⟩
 ·rw[hget,jK a d v hd H.tsz.1];split
  ·exact hs
  ·exact H.slots t ht
 ·rw[hget]at hgg;rw[jK a d v hd H.tsz.1];split at hgg
  ·grind
  ·rename_i hdt;rw[Xr hdt];exact H.grps t g z ht hgg hz
 ·rw[hlb]at hB;obtain⟨h1,h2,h3,b,y,h4,h5,h6,h7,h8⟩:=H.lblk B n hB
  grind
 ·rw[hget]at hgg;split at hgg
  ·exact hu g hgg
  ·exact H.used.1 t g hgg
theorem FR.setV(H:FR c N U e h a w S β γ lam ω){d:Option Tmp}{r:AV}{v:Value}(hd:∀t,d=some t->t<N)(hv:VR S β r v):
  FR c N U (e.upd d (.ofV r)) h (a.put d v) w S β γ lam ω:=
 H.set (x:=⟨.val r,none⟩) hd hv (fun _ _ h=>by cases h) (fun _ h=>by cases h)
def fl(ω:Nat->Owner)(b:Nat)(y:Owner):Nat->Owner:=fun b'=>if b'=b then y else ω b'
theorem FR.own(H:FR c N U e h a w S β γ lam ω){d:Option Tmp}{r:AV}{v:Value}{gid:Nat}{z:Option Nat}(hd:∀t,d=some t->t<N)(hv:VR S β r v)(hU:∀g,gid<=g->g<gid+1000->¬U g)
  (hf:(∃a len,v= .slice a len len/\(a=none->len=0))\/∃len cap sz b off x,v= .slice (some ⟨b,off,none⟩) len cap/\len<=cap/\z=some sz/\Row w b x/\off+cap*sz<=x.size/\ω b= .no/\c.w.heap.size<=b/\
   (∀o,off+len*sz<=o->S b o=none)):
  ∃ω',FR c N (fun g=>U g\/(gid<=g/\g<gid+1000)) (e.upd d (.own r gid z)) h (a.put d v) w S β (fun g=>if g=gid then v else γ g) lam ω':=by
 have hget:∀t,(e.upd d (.own r gid z)).get t=if d=some t then⟨.val r,some gid⟩else e.get t:=fun t=>by rw[cL];rfl
 have hal:(e.upd d (.own r gid z)).al=(gid,z):: e.al:=rfl;have hlb:(e.upd d (.own r gid z)).lb=e.lb:=rfl;have hdl:∀B i:Nat,1000<=B->d≠some (B+i):=fun B i hB hh=>by have h1:B+i<N:=hd _ hh;have h2:=H.tsz.2;omega
 have hne:∀t g,(e.get t).g=some g->g≠gid:=fun t g hg hh=>hU g ZS ZS (H.used.1 t g hg);have hna:∀g y,aP e.al g=some y->g≠gid:=fun g y hg hh=>hU g ZS ZS (H.used.2 g y hg);have halv:∀g,g≠gid->aP ((gid,z):: e.al) g=aP e.al g:=fun g hg=>by rw[dc,Xr (fun h=>hg h.symm)]
 have key:∀ω':Nat->Owner,(∀b,ω b≠.no->ω' b=ω b)->(∀b,ω' b≠.no->iS c ω' b/\b<w.heap.size)->rM S w ω' gid z v->
   FR c N (fun g=>U g\/(gid<=g/\g<gid+1000)) (e.upd d (.own r gid z)) h (a.put d v) w S β (fun g=>if g=gid then v else γ g) lam ω':=by
  intro ω' hω hmine hfree;refine⟨H.wf,H.gro,H.keep,H.le,H.ext,H.hlen,?_,by rw[jw];exact H.tsz,fun t ht=>?_,fun t g y ht hgg hz=>?_,fun B n hB=>?_,fun g y hg=>?_,hmine,⟨fun t g hgg=>?_,fun g y hg=>?_⟩⟩
  ·exact H.heap.rows (aD.le_refl S) (il.refl β) H.hlen fun l cs hl _=>.inl ⟨hl,fun b _ ho=>⟨ZU,rfl,fun o h=>h⟩⟩
  ·rw[hget,jK a d v hd H.tsz.1];split
   ·exact hv
   ·exact H.slots t ht
  ·rw[hget]at hgg;rw[hal]at hz;rw[jK a d v hd H.tsz.1];split at hgg
   ·grind
   ·rename_i hdt;have hg:=hne t g hgg;rw[Xr hdt,Xr hg];rw[halv g hg]at hz;exact H.grps t g y ht hgg hz
  ·rw[hlb]at hB;obtain⟨h1,h2,h3,b,x,h4,h5,h6,h7,h8⟩:=H.lblk B n hB
   grind
  ·rw[hal,dc]at hg;split at hg
   ·grind
   ·rename_i hgg;have hgn:g≠gid:=fun h=>hgg h.symm;simp only[Xr hgn];obtain⟨a',len,cap,h1,h2,h3,h4⟩:=H.free g y hg;refine⟨a',len,cap,h1,h2,h3,h4.imp id ?_⟩
    grind
  ·rw[hget]at hgg;split at hgg
   ·grind
   ·exact .inl (H.used.1 t g hgg)
  ·rw[hal,dc]at hg;split at hg
   ·grind
   ·exact .inl (H.used.2 g y hg)
 rcases hf with⟨ad,len,rfl,hn⟩|⟨len,cap,sz,b,off,x,rfl,h1,h2,h3,h4,h5,h6,h7⟩
 ·exact⟨ω,key ω (fun _ _=>rfl) H.mine ⟨ad,len,len,rfl,Xz _,hn,.inl rfl⟩⟩
 ·refine⟨fl ω b (.grp gid),key _ (fun b' hb'=>?_) (fun b' hb'=>?_) ⟨some ⟨b,off,none⟩,len,cap,rfl,h1,(fun h=>by cases h),.inr ⟨sz,b,off,x,h2,rfl,h3,h4,by simp[fl],h7⟩⟩⟩
  ·unfold fl
   grind
  ·unfold fl at hb';split at hb'
   ·rename_i hbb;subst hbb;exact⟨.inr h6,h3.lt⟩
   ·rename_i hbb;exact⟨(H.mine b' hb').1.of_eq (by unfold fl;rw[Xr hbb]),(H.mine b' hb').2⟩
end
end Go.Av
namespace Go.Av
variable [Dr]
omit [Dr]in
theorem dx(k:Nat)(x:Ent)(r:List (Nat×Ent))(t:Nat):cD ((k,x):: r) t=if k=t then x else cD r t:=by
 simp_all[cD]
omit [Dr]in
theorem AG(f:Nat->Ent)(B:Nat)(r:List (Nat×Ent))(t:Nat):∀n k,cD (((List.range' k n).map fun i=>(B+i,f i))++r) t=
  if B+k<=t/\t<B+k+n then f (t-B)else cD r t:=by
 intro n
 induction n with
 |zero=>grind
 |succ n ih=>
  intro k;simp only[List.range'_succ,Yf,Yk,dx,ih]
  grind
def lj(cs:List AV)(offs:List Nat)(gid i:Nat):Ent:=bif dP offs i then⟨.val (.sl []),some (gid+i)⟩else⟨.val (ab cs i),none⟩
section
omit [Dr]
theorem uF(B:Nat)(cs:List AV)(offs:List Nat)(gid n:Nat)(r:List (Nat×Ent))(t:Nat):
  cD (kp B cs offs gid n++r) t=if B<=t/\t<B+n then lj cs offs gid (t-B)else cD r t:=by
 have:=AG (lj cs offs gid) B r t n 0
 rw[<- Zn]at this;show cD ((List.range n).map (fun i=>(B+i,lj cs offs gid i))++r) t=_
 grind
theorem vR(A r:List (Nat×Option Nat))(g:Nat):aP (A++r) g=match aP A g with|some z=>some z|none=>aP r g:=by
 induction A with
 |nil=>simp[aP]
 |cons x A ih=>
  grind [dc]
theorem eQ(k n:Nat)(r:List (Nat×Nat))(B:Nat):ba ((k,n):: r) B=if k=B then some n else ba r B:=by
 simp_all[ba]
theorem AA(r:List (Nat×Nat))(k B:Nat):ba (oM r k) B=if k=B then none else ba r B:=by
 induction r with
 |nil=>simp[oM,ba]
 | cons x r ih=>
  obtain⟨j,y⟩:=x;simp only[oM];by_cases hj:j=k
  ·simp_all[eQ]
  ·have:Nat.beq j k=false:=by rw[YA];intro hh;exact hj (Nat.eq_of_beq_eq_true hh)
   simp only[this,XD,eQ,ih]
   grind
theorem iH(l:List Nat)(t:Nat):dP l t=true↔t∈l:=by
 induction l with
 |nil=>simp[dP]
 | cons k l ih=>
  simp only[dP,X7];by_cases hk:k=t
  ·subst hk;simp
  ·have:Nat.beq k t=false:=by rw[YA];intro hh;exact hk (Nat.eq_of_beq_eq_true hh)
   grind
end
def io(A:List (Nat×Option Nat))(gid:Nat):Prop:=∀g z,aP A g=some z->z=none/\gid<=g/\g<gid+1000
section
omit [Dr]
theorem nL{offs:List Nat}{gid n:Nat}(h:∀i∈offs,i<n)(hn:n<1000):io (qX offs gid) gid:=by
 intro g z hg;unfold qX at hg
 induction offs with
 |nil=>simp[aP]at hg
 | cons i offs ih=>
  simp only[Yf,dc]at hg;split at hg
  ·rename_i hi;simp only[Xq]at hg
   have:=h i ZV
   grind
  grind
theorem jt(gid:Nat):io [] gid:=fun g z h=>by simp[aP]at h
theorem wa(gid:Nat):io [(gid,none)] gid:=fun g z h=>by
 grind [dc,aP]
end
section
variable {c:Entry} {N:Nat} {U:Nat->Prop} {e:Env} {h:Hp} {a:Act} {w:World} {S:aD} {β:List cE} {γ:Nat->Value} {lam:Nat->Option Nat} {ω:Nat->Owner}
def γN(γ:Nat->Value)(gid:Nat):Nat->Value:=fun g=>if gid<=g/\g<gid+1000 then .slice none 0 0 else γ g
theorem ir(H:FR c N U e h a w S β γ lam ω){A:List (Nat×Option Nat)}{gid:Nat}(hU:∀g,gid<=g->g<gid+1000->¬U g)(hA:io A gid){g:Nat}{z:Option Nat}(hg:aP (A++e.al) g=some z):(z=none/\gid<=g/\g<gid+1000)\/(aP e.al g=some z/\¬(gid<=g/\g<gid+1000)):=by
 rw[vR]at hg;cases hh:aP A g with
 |some y=>rw[hh]at hg;simp only[Xq]at hg;subst hg;exact .inl (hA g _ hh)
 |none=>
  rw[hh]at hg;exact .inr ⟨hg,fun hr=>hU g hr.1 hr.2 (H.used.2 g z hg)⟩
theorem Ag(H:FR c N U e h a w S β γ lam ω){A:List (Nat×Option Nat)}{gid:Nat}(hU:∀g,gid<=g->g<gid+1000->¬U g)(hA:io A gid){ω':Nat->Owner}{w':World}(hω:∀b,ω b≠.no->ω' b=ω b)(hrow:∀b x g,ω b= .grp g->Row w b x->Row w' b x){g:Nat}{z:Option Nat}(hg:aP (A++e.al) g=some z):rM S w' ω' g z (γN γ gid g):=by
 rcases ir H hU hA hg with⟨rfl,h1⟩|⟨h1,h2⟩
 ·unfold γN;rw[Xv h1];exact⟨none,0,0,rfl,Xz _,fun _=>rfl,.inl rfl⟩
 ·unfold γN;rw[Xr h2];obtain⟨a',len,cap,g1,g2,g3,g4⟩:=H.free g z h1;refine⟨a',len,cap,g1,g2,g3,g4.imp id ?_⟩
  grind
theorem FR.allocL(H:FR c N U e h a w S β γ lam ω){s n gid:Nat}{x:Array Value}{t:TypeId}{cs:List AV}{offs:List Nat}(hs:s<N)(hU:∀g,gid<=g->g<gid+1000->¬U g)(hn:n<1000)(hcs:∀i,i<n->∃v,x[i]? = some v/\VR S β (ab cs i) v)(hnil:∀i∈offs,i<n/\x[i]? = some (.slice none 0 0))(hfree:aT e.sl (aL s)=true):
  ∃lam' ω',FR c N (fun g=>U g\/(gid<=g/\g<gid+1000)) (e.upd (some s) { ent:=⟨.loc (aL s) 0,none⟩,ls:=kp (aL s) cs offs gid n,add:=qX offs gid,lb:=some (aL s,n) }) h
   (a.put (some s) (.pointer (some ⟨w.heap.size,0,none⟩))) (w.alloc (.cells x t)) S β (γN γ gid) lam' ω':=by
 have H2:=H.alloc x t;have hA:io (qX offs gid) gid:=nL (fun i hi=>(hnil i hi).1) hn;have hwn:∀o,S w.heap.size o=none:=fun o=>H.wf.none (Xz _) o;have hωn:ω w.heap.size= .no:=by
  cases ho:ω w.heap.size with
  |no=>rfl
  |_=>have:=(H.mine w.heap.size (by rw[ho];simp)).2;omega
 have hω:∀b,ω b≠.no->fl ω w.heap.size (.loc (aL s)) b=ω b:=fun b hb=>by
  unfold fl;grind
 have hget:∀t',(e.upd (some s) { ent:=⟨.loc (aL s) 0,none⟩,ls:=kp (aL s) cs offs gid n,add:=qX offs gid,lb:=some (aL s,n) }).get t'=
   if s=t' then⟨.loc (aL s) 0,none⟩else if aL s<=t'/\t'<aL s+n then lj cs offs gid (t'-aL s)else e.get t':=by
  intro t';rw[cL,uF];simp only[Xq];rfl
 have hB:aL s=1000*(s+1):=rfl;have hN:=H.tsz.2;have hnoloc:∀t' off,(e.get t').v≠.loc (aL s) off:=by
  intro t' off hv;unfold Env.get at hv;unfold aT at hfree;rw[XJ]at hfree;revert hv hfree;generalize e.sl=l;intro hfree
  induction l with
  |nil=>intro hv;simp[cD,Ent.none]at hv
  |cons y l ih=>
   obtain⟨k,y⟩:=y;intro hv;rw[dx]at hv;split at hv
   ·simp_all
   grind
 have hmemoff:∀i,dP offs i=true->i<n/\x[i]? = some (.slice none 0 0):=fun i hi=>hnil i ((iH _ _).1 hi);refine⟨fun B'=>if B'=aL s then some w.heap.size else lam B',fl ω w.heap.size (.loc (aL s)),H2.wf,H2.gro,H2.keep,H2.le,H2.ext,H2.hlen,?_,by rw[jw];exact H.tsz,?_,?_,?_,?_,?_,?_,?_⟩
 ·exact H2.heap.rows (aD.le_refl S) (il.refl β) H2.hlen fun l cs' hl _=>.inl ⟨hl,fun b _ ho=>⟨ZU,rfl,fun o h=>h⟩⟩
 ·intro t' ht';rw[hget,jK a (some s) _ (fun t h=>ZU) H.tsz.1];simp only[Xq];by_cases hst:s=t'
  ·subst hst;simp only[XF,iq]
   grind
  ·rw[Xr hst,Xr hst,Xr ZS]
   have:=H2.slots t' ht'
   cases hv:(e.get t').v with
   |val av=>rw[hv]at this;exact this
   |loc B' off=>
    rw[hv]at this;simp only[iq]at this |-
    grind
 ·intro t' g z ht' hg hz;rw[hget]at hg;rw[jK a (some s) _ (fun t h=>ZU) H.tsz.1];simp only[Xq];by_cases hst:s=t'
  ·grind
  ·rw[Xr hst,Xr ZS]at hg;rw[Xr hst];have hr:¬(gid<=g/\g<gid+1000):=fun hr=>hU g hr.1 hr.2 (H.used.1 t' g hg);rcases ir H hU hA hz with⟨_,h1⟩|⟨h1,_⟩
   ·grind
   ·unfold γN;rw[Xr hr];exact H.grps t' g z ht' hg h1
 ·intro B' n' hB';have hlb:(e.upd (some s) { ent:=⟨.loc (aL s) 0,none⟩,ls:=kp (aL s) cs offs gid n,add:=qX offs gid,lb:=some (aL s,n) }).lb=(aL s,n):: e.lb:=rfl;rw[hlb,eQ]at hB';by_cases hBB:aL s=B'
  ·subst hBB;rw[Xv rfl]at hB';simp only[Xq]at hB';subst hB';refine⟨ZS,ZS,hn,w.heap.size,x,ZV,Row.new w x t,by simp[fl],hwn,fun i hi=>?_⟩;rw[hget,Xr ZS,Xv ZS,show aL s+i-aL s=i by omega];obtain⟨v,hv,hvr⟩:=hcs i hi;unfold lj;cases hm:dP offs i with
   | true=>
    obtain⟨_,hx⟩:=hmemoff i hm;refine⟨_,.sl [],hx,rfl,?_,fun g z hg _=>?_⟩
    ·simp only[VR];grind
    ·simp only[Xw,Xq]at hg;unfold γN
     grind
   |false=>
    grind
  ·rw[Xr hBB]at hB';obtain⟨h1,h2,h3,b,y,h4,h5,h6,h7,h8⟩:=H2.lblk B' n' hB';refine⟨h1,h2,h3,b,y,ZU,h5,ZU,h7,fun i hi=>?_⟩;rw[hget,Xr ZS,Xr ZS];obtain⟨v,a',g1,g2,g3,g4⟩:=h8 i hi;refine⟨v,a',g1,g2,g3,fun g z hg hz=>?_⟩;have hr:¬(gid<=g/\g<gid+1000):=fun hr=>hU g hr.1 hr.2 (H.used.1 _ g hg);rcases ir H hU hA hz with⟨_,k1⟩|⟨k1,_⟩
   all_goals simp_all[γN,Xr]
 ·intro g z hg;exact Ag H hU hA hω (fun b y g' _ hr=>hr.of_eq (alloc_old w _ hr.lt)) hg
 ·intro b hb;unfold fl at hb;split at hb
  ·rename_i hbb;subst hbb;exact⟨.inr H.size,ZV⟩
  ·rename_i hbb;exact⟨(H2.mine b hb).1.of_eq ZU,(H2.mine b hb).2⟩
 ·intro t' g hg;rw[hget]at hg;split at hg
  ·simp at hg
  ·split at hg
   ·rename_i hr;unfold lj at hg
    grind
   ·exact .inl (H.used.1 t' g hg)
 ·intro g z hg;rcases ir H hU hA hg with⟨_,h1⟩|⟨h1,_⟩
  ·exact .inr h1
  ·exact .inl (H.used.2 g z h1)
omit [Dr]in
theorem ff(w:World)(b:Nat)(y:Array Value){k:Nat}(h:k≠b):(w.setRow b y).heap[k]? = w.heap[k]?:=setRow_other w b k y h
theorem Gro.setRow{w:World}{b:Nat}{x:Array Value}(_:Row w b x)(y:Array Value):Gro w (w.setRow b y):=⟨ZW,rfl,rfl,rfl,fun _=>ZW⟩
omit [Dr]in
theorem Row.setRow{w:World}{b:Nat}{x y:Array Value}(h:Row w b x):Row (w.setRow b y) b y:=by
 obtain⟨e,h⟩:=h;exact⟨e,setRow_heap w b x y e _ h⟩
theorem xM(H:FR c N U e h a w S β γ lam ω){b:Nat}{x y:Array Value}(hr:Row w b x)(hy:∀o v,S b o=some v->y[o]? = some v):Wf S (w.setRow b y):=by
 intro b' o v hv;by_cases hb:b'=b
 ·subst hb;rw[hr.setRow.cell];exact hy o v hv
 ·rw[cell_of_heap (ff w b y hb)];exact H.wf b' o v hv
theorem FR.storeL(H:FR c N U e h a w S β γ lam ω){B m off n gid b:Nat}{x:Array Value}{vs:List Value}{L:List (Nat×Ent)}{A:List (Nat×Option Nat)}{ent:Nat->Ent}(hU:∀g,gid<=g->g<gid+1000->¬U g)(hA:io A gid)(hm:ba e.lb B=some m)(hle:off+n<=m)(hvs:vs.length=n)(hlam:lam B=some b)(hrow:Row w b x)(hL:∀t,cD (L++e.sl) t=if B+off<=t/\t<B+off+n then ent (t-(B+off))else e.get t)(hent:∀i,i<n->∃v a',vs[i]? = some v/\(ent i).v= .val a'/\VR S β a' v/\(∀g z,(ent i).g=some g->aP (A++e.al) g=some z->v=γN γ gid g)/\∀g,(ent i).g=some g->U g\/(gid<=g/\g<gid+1000))(u:Ent):
  FR c N (fun g=>U g\/(gid<=g/\g<gid+1000)) (e.upd none { ent:=u,ls:=L,add:=A }) h a (w.setRow b (x.toList.take off++vs++x.toList.drop (off+vs.length)).toArray) S β (γN γ gid) lam ω:=by
 obtain⟨hB1,hB2,hB3,b',x',h4,h5,h6,h7,h8⟩:=H.lblk B m hm;rw[hlam]at h4;cases h4;have hxx:x'=x:=by
  obtain⟨e1,h51⟩:=h5;obtain⟨e2,h52⟩:=hrow;rw[h51]at h52;simp only[Xq,Obj.cells.injEq]at h52;exact h52.1
 subst hxx;have hxs:m<=x'.size:=by
  rcases Yc m with h0|h0
  ·omega
  ·grind
 have hynew:∀i,(x'.toList.take off++vs++x'.toList.drop (off+vs.length)).toArray[i]? = if off<=i/\i<off+n then vs[i-off]? else x'[i]?:=by
  intro i;have htl:(x'.toList.take off).length=off:=by simp;omega
  simp only[Y4];by_cases hi:i<off
  ·grind
  ·grind
 have hwf:Wf S (w.setRow b (x'.toList.take off++vs++x'.toList.drop (off+vs.length)).toArray):=xM H h5 fun o v hv=>ZU
 have hother:∀k,ω k≠.loc B->(w.setRow b (x'.toList.take off++vs++x'.toList.drop (off+vs.length)).toArray).heap[k]? = w.heap[k]?:=fun k hk=>ff w b _ ZU;have hget:∀t',(e.upd none { ent:=u,ls:=L,add:=A }).get t'=if B+off<=t'/\t'<B+off+n then ent (t'-(B+off))else e.get t':=by
  intro t';rw[cL];simp only[reduceCtorEq,Xy];exact hL t'
 have hal:(e.upd none { ent:=u,ls:=L,add:=A }).al=A++e.al:=rfl;have hlb:(e.upd none { ent:=u,ls:=L,add:=A }).lb=e.lb:=rfl;refine⟨hwf,H.gro.trans (Gro.setRow h5 _),fun k hk hE=>?_,H.le,H.ext,H.hlen,?_,H.tsz,?_,?_,?_,?_,?_,?_,?_⟩
 ·have:=H.keep k hk hE
  have hkb:k≠b:=by
   rintro rfl
   have:=(H.mine k (by rw[h6];simp)).1.low
   rcases this with h|h
   ·exact hE h
   ·omega
  grind [ff]
 ·exact H.heap.rows (aD.le_refl S) (il.refl β) H.hlen fun l cs' hl _=>.inl ⟨hl,fun k _ ho=>⟨ho,hother k (by rw[ho];simp),fun o h=>h⟩⟩
 ·intro t' ht';rw[hget,Xr ZS];exact H.slots t' ht'
 ·intro t' g z ht' hg hz;rw[hget,Xr ZS]at hg;have hr:¬(gid<=g/\g<gid+1000):=fun hr=>hU g hr.1 hr.2 (H.used.1 t' g hg);rcases ir H hU hA hz with⟨_,h1⟩|⟨h1,_⟩
  ·grind
  ·unfold γN;rw[Xr hr];exact H.grps t' g z ht' hg h1
 ·intro B' n' hB';rw[hlb]at hB';obtain⟨k1,k2,k3,b',y,k4,k5,k6,k7,k8⟩:=H.lblk B' n' hB';by_cases hBB:B'=B
  ·subst hBB;rw[hm]at hB';cases hB';refine⟨k1,k2,k3,b,_,hlam,h5.setRow,h6,h7,fun i hi=>?_⟩;rw[hget,hynew];by_cases hin:off<=i/\i<off+n
   ·grind
   ·rw[Xr hin,Xr ZS];obtain⟨v,a',g1,g2,g3,g4⟩:=h8 i hi;refine⟨v,a',g1,g2,g3,fun g z hg hz=>?_⟩;have hr:¬(gid<=g/\g<gid+1000):=fun hr=>hU g hr.1 hr.2 (H.used.1 _ g hg);rcases ir H hU hA hz with⟨_,h1⟩|⟨h1,_⟩
    all_goals simp_all[γN,Xr]
  ·refine⟨k1,k2,k3,b',y,k4,k5.of_eq (hother b' ZU),k6,k7,fun i hi=>?_⟩;rw[hget,Xr ZS];obtain⟨v,a',g1,g2,g3,g4⟩:=k8 i hi;refine⟨v,a',g1,g2,g3,fun g z hg hz=>?_⟩;have hr:¬(gid<=g/\g<gid+1000):=fun hr=>hU g hr.1 hr.2 (H.used.1 _ g hg);rcases ir H hU hA hz with⟨_,h1⟩|⟨h1,_⟩
   all_goals simp_all[γN,Xr]
 ·intro g z hg;exact Ag H hU hA (fun _ _=>rfl) (fun k y g' hk hr=>hr.of_eq (hother k (by rw[hk];simp))) hg
 ·intro k hk;exact⟨(H.mine k hk).1,by simpa using(H.mine k hk).2⟩
 ·intro t' g hg;rw[hget]at hg;split at hg
  ·obtain⟨_,_,_,_,_,_,k5⟩:=hent (t'-(B+off)) ZS;exact k5 g hg
  ·exact .inl (H.used.1 t' g hg)
 ·intro g z hg;rcases ir H hU hA hg with⟨_,h1⟩|⟨h1,_⟩
  ·exact .inr h1
  ·exact .inl (H.used.2 g z h1)
end
section
variable {c:Entry} {N:Nat} {U:Nat->Prop} {e:Env} {h:Hp} {a:Act} {w:World} {S:aD} {β:List cE} {γ:Nat->Value} {lam:Nat->Option Nat} {ω:Nat->Owner}
omit [Dr]in
theorem Row.inj{b:Nat}{x y:Array Value}(h:Row w b x)(g:Row w b y):x=y:=by
 obtain⟨e1,h1⟩:=h;obtain⟨e2,h2⟩:=g
 grind
theorem FR.storeS(H:FR c N U e h a w S β γ lam ω){B m p b:Nat}{x:Array Value}{vs:List Value}{cs:List AV}(hp:p<N)(hm:ba e.lb B=some m)(hvs:vs.length=m)(hlam:lam B=some b)(hrow:Row w b x)(hcs:bB S β cs vs)(hslot:a.tmps.getD p undef= .pointer (some ⟨b,0,none⟩))(u:Ent):
  ∃S' ω',S.le S'/\FR c N U (e.upd none { ent:=u,ls:=[(p,⟨.val (.ip cs),none⟩)],unlb:=some B }) h a (w.setRow b (vs++x.toList.drop vs.length).toArray) S' β γ lam ω':=by
 obtain⟨hB1,hB2,hB3,b',x',h4,h5,h6,h7,h8⟩:=H.lblk B m hm;rw[hlam]at h4;cases h4;cases h5.inj hrow;have hN:=H.tsz.2;have hy:∀i,i<m->(vs++x.toList.drop vs.length).toArray[i]? = vs[i]?:=fun i hi=>by
  grind
 have hle:S.le (S.withRowTo b m (vs++x.toList.drop vs.length).toArray):=fun k o v hv=>by
  grind [aD.withRowTo]
 have hSb:∀o v,vs[o]? = some v->S.withRowTo b m (vs++x.toList.drop vs.length).toArray b o=some v:=fun o v hv=>by
  have ho:o<m:=by
   rcases XT o vs.length with h|h
   ·omega
   ·grind
  unfold aD.withRowTo
  grind
 have hSo:∀k,k≠b->∀o,S.withRowTo b m (vs++x.toList.drop vs.length).toArray k o=S k o:=fun k hk o=>by
  unfold aD.withRowTo;rw[Xr hk]
 have hωb:∀k,ω k≠.loc B->k≠b:=fun k hk=>ZU
 have hother:∀k,ω k≠.loc B->(w.setRow b (vs++x.toList.drop vs.length).toArray).heap[k]? = w.heap[k]?:=fun k hk=>ff w b _ (hωb k hk);have hω:∀k,ω k≠.no->ω k≠.loc B->fl ω b .no k=ω k:=fun k _ hk=>by unfold fl;grind
 have hget:∀t',(e.upd none { ent:=u,ls:=[(p,⟨.val (.ip cs),none⟩)],unlb:=some B }).get t'=if p=t' then⟨.val (.ip cs),none⟩else e.get t':=by
  intro t';rw[cL];simp only[reduceCtorEq,Xy,Yk,X1,dx];rfl
 have hlb:(e.upd none { ent:=u,ls:=[(p,⟨.val (.ip cs),none⟩)],unlb:=some B }).lb=oM e.lb B:=rfl;have hal:(e.upd none { ent:=u,ls:=[(p,⟨.val (.ip cs),none⟩)],unlb:=some B }).al=e.al:=rfl;refine⟨_,fl ω b .no,hle,?_,H.gro.trans (Gro.setRow hrow _),fun k hk hE=>?_,aD.le_trans H.le hle,H.ext,H.hlen,?_,H.tsz,?_,?_,?_,?_,?_,?_⟩
 ·intro k o v hv;by_cases hk:k=b
  ·subst hk;rw[hrow.setRow.cell];unfold aD.withRowTo at hv
   grind
  ·rw[hSo k hk]at hv;rw[cell_of_heap (ff w b _ hk)];exact H.wf k o v hv
 ·have hkb:k≠b:=by
   rintro rfl
   have:=(H.mine k (by rw[h6];simp)).1.low
   rcases this with h|h
   ·exact hE h
   ·omega
  have:=H.keep k hk hE
  grind [ff]
 ·exact H.heap.rows hle (il.refl β) H.hlen fun l cs' hl _=>.inl ⟨hl,fun k _ ho=>by
   grind⟩
 ·intro t' ht';rw[hget];split
  ·rename_i hpt;subst hpt;rw[hslot];simp only[iq,VR];exact⟨b,0,vs,rfl,hcs.mono hle (il.refl β),fun j v hj=>ZU⟩
  ·have:=H.slots t' ht'
   cases hv:(e.get t').v with
   |val av=>rw[hv]at this;exact VR.mono hle (il.refl β) _ _ this
   |loc B off=>rw[hv]at this;exact this
 ·intro t' g z ht' hg hz;rw[hget]at hg;split at hg
  ·simp at hg
  ·exact H.grps t' g z ht' hg hz
 ·intro B' n' hB';rw[hlb,AA]at hB';split at hB'
  ·simp at hB'
  ·rename_i hBB;obtain⟨k1,k2,k3,b',y,k4,k5,k6,k7,k8⟩:=H.lblk B' n' hB';have hk:ω b'≠.loc B:=by rw[k6];simp only[ne_eq,Owner.loc.injEq];exact fun h=>hBB h.symm
   refine⟨k1,k2,k3,b',y,k4,k5.of_eq (hother b' hk),ZU,fun o=>ZU,fun i hi=>?_⟩;rw[hget,Xr ZS];obtain⟨v,a',g1,g2,g3,g4⟩:=k8 i hi;exact⟨v,a',g1,g2,VR.mono hle (il.refl β) _ _ g3,g4⟩
 ·intro g z hg;obtain⟨a',len,cap,g1,g2,g3,g4⟩:=H.free g z hg;refine⟨a',len,cap,g1,g2,g3,g4.imp id ?_⟩;rintro⟨sz,k,off,y,k1,k2,k3,k4,k5,k6⟩;have hk:ω k≠.loc B:=by rw[k5];simp
  exact⟨sz,k,off,y,k1,k2,k3.of_eq (hother k hk),k4,ZU,fun o ho=>ZU⟩
 ·intro k hk;unfold fl at hk;split at hk
  ·grind
  ·rename_i hkk;exact⟨(H.mine k hk).1.of_eq (by unfold fl;rw[Xr hkk]),by simpa using(H.mine k hk).2⟩
 ·refine⟨fun t' g hg=>?_,H.used.2⟩;rw[hget]at hg;split at hg
  ·simp at hg
  ·exact H.used.1 t' g hg
theorem FR.newH(H:FR c N U e h a w S β γ lam ω)(x:Array Value)(t:TypeId){cs:List AV}(hcs:bB S β cs (x.toList.take cs.length))(htag:∀t',fh t' cs->t'=t):
  ∃ω',FR c N U e (h++[cs]) a (w.alloc (.cells x t)) S (β++[(w.heap.size,x.size)]) γ lam ω'/\(β++[(w.heap.size,x.size)])[h.length]? = some (w.heap.size,x.size)/\il β (β++[(w.heap.size,x.size)]):=by
 have H2:=H.alloc x t;have hext:il β (β++[(w.heap.size,x.size)]):=fun l b hb=>by
  grind
 have hnew:(β++[(w.heap.size,x.size)])[h.length]? = some (w.heap.size,x.size):=by rw[<- H.hlen];simp
 have hωn:ω w.heap.size= .no:=by
  cases ho:ω w.heap.size with
  |no=>rfl
  |_=>have:=(H.mine w.heap.size (by rw[ho];simp)).2;omega
 have hω:∀b,ω b≠.no->fl ω w.heap.size (.heap h.length) b=ω b:=fun b hb=>by
  unfold fl;grind
 refine⟨fl ω w.heap.size (.heap h.length),⟨H2.wf,H2.gro,H2.keep,H2.le,il.trans H2.ext hext,by simp[H.hlen],?_,H2.tsz,?_,H2.grps,?_,?_,?_,H2.used⟩,hnew,hext⟩
 ·refine H2.heap.rows (aD.le_refl S) hext H2.hlen fun l cs' hl hne=>?_;rcases XT l h.length with hlt|hge
  ·grind
  ·rw[XZ hge]at hl;have hlz:l=h.length:=by
    rcases Yc (l-h.length)with h0|h0
    ·omega
    ·grind
   subst hlz;simp only[Y9,List.getElem?_cons_zero,Xq]at hl;subst hl;exact .inr ⟨w.heap.size,x,hnew,Row.new w x t,by simp[fl],hcs.mono (aD.le_refl S) hext,fun o=>H.wf.none (Xz _) o,fun t' ht'=>⟨x,by grind [heap_alloc_new]⟩⟩
 ·intro t' ht'
  have:=H2.slots t' ht'
  cases hv:(e.get t').v with
  |val av=>rw[hv]at this;exact VR.mono (aD.le_refl S) hext _ _ this
  |loc B off=>rw[hv]at this;exact this
 ·intro B n hB;obtain⟨h1,h2,h3,b,y,h4,h5,h6,h7,h8⟩:=H2.lblk B n hB;refine⟨h1,h2,h3,b,y,h4,h5,ZU,h7,fun i hi=>?_⟩;obtain⟨v,a',g1,g2,g3,g4⟩:=h8 i hi;exact⟨v,a',g1,g2,VR.mono (aD.le_refl S) hext _ _ g3,g4⟩
 ·intro g z hg;obtain⟨a',len,cap,g1,g2,g3,g4⟩:=H2.free g z hg;refine⟨a',len,cap,g1,g2,g3,g4.imp id ?_⟩
  grind
 ·intro b hb;unfold fl at hb;split at hb
  ·rename_i hbb;subst hbb;exact⟨.inr H.size,ZV⟩
  ·rename_i hbb;exact⟨(H2.mine b hb).1.of_eq ZU,(H2.mine b hb).2⟩
theorem FR.turnH(H:FR c N U e h a w S β γ lam ω){l b:Nat}{cs cs':List AV}{x y:Array Value}(hl:h[l]? = some cs)(hne:cs≠[])(hb:∃n,β[l]? = some (b,n))(hrow:Row w b x)(hys:y.size=x.size)(hcs:bB S β cs' (y.toList.take cs'.length))(htag:∀t,fh t cs'->fh t cs):
  FR c N U e (h.set l cs') a (w.setRow b y) S β γ lam ω:=by
 obtain⟨n,hb⟩:=hb;obtain⟨h1,h3,h4,h5⟩:=H.heap.of_row hl hne hb hrow;rw[hb]at h1;cases h1;have h2:=hrow;have hlt:l<h.length:=by
  rcases XT l h.length with h'|h'
  ·exact h'
  ·grind
 have hωb:∀k,ω k≠.heap l->k≠b:=fun k hk=>ZU
 have hother:∀k,ω k≠.heap l->(w.setRow b y).heap[k]? = w.heap[k]?:=fun k hk=>ff w b _ (hωb k hk);refine⟨xM H hrow fun o v hv=>ZU,H.gro.trans (Gro.setRow hrow _),fun k hk hE=>?_,H.le,H.ext,by simp[H.hlen],?_,H.tsz,H.slots,H.grps,?_,?_,fun k hk=>⟨(H.mine k hk).1,by simpa using(H.mine k hk).2⟩,H.used⟩
 ·have hkb:k≠b:=by
   rintro rfl
   have:=(H.mine k (by rw[h3];simp)).1.low
   rcases this with h|h
   ·exact hE h
   ·omega
  have:=H.keep k hk hE
  grind [ff]
 ·refine H.heap.rows (aD.le_refl S) (il.refl β) H.hlen fun j ds hj hd=>?_;rw[Yx]at hj;split at hj
  ·rename_i hlj;subst hlj;simp only[Xq]at hj;subst hj;exact .inr ⟨b,y,by rw[hb,hys],hrow.setRow,h3,hcs,h5,fun t ht=>by obtain⟨z,hz⟩:=H.heap.tag hl (htag t ht) hb;exact⟨y,setRow_heap w b z y t _ hz⟩⟩
  grind
 ·intro B n hB;obtain⟨k1,k2,k3,k,z,k4,k5,k6,k7,k8⟩:=H.lblk B n hB;exact⟨k1,k2,k3,k,z,k4,k5.of_eq (hother k (by rw[k6];simp)),k6,k7,k8⟩
 ·intro g z hg;obtain⟨a',len,cap,g1,g2,g3,g4⟩:=H.free g z hg;refine⟨a',len,cap,g1,g2,g3,g4.imp id ?_⟩;rintro⟨sz,k,off,z',k1,k2,k3,k4,k5,k6⟩;exact⟨sz,k,off,z',k1,k2,k3.of_eq (hother k (by rw[k5];simp)),k4,k5,k6⟩
theorem FR.killH(H:FR c N U e h a w S β γ lam ω)(l:Nat):FR c N U e (h.set l []) a w S β γ lam ω:=by
 refine⟨H.wf,H.gro,H.keep,H.le,H.ext,by simp[H.hlen],?_,H.tsz,H.slots,H.grps,H.lblk,H.free,H.mine,H.used⟩;refine H.heap.rows (aD.le_refl S) (il.refl β) H.hlen fun j ds hj hd=>?_
 grind
theorem FR.moveH(H:FR c N U e h a w S β γ lam ω){l b:Nat}{cs cs':List AV}{x:Array Value}(hl:h[l]? = some cs)(hne:cs≠[])(hb:∃n,β[l]? = some (b,n))(hrow:Row w b x)(hcs:bB S β cs' (x.toList.take cs'.length))(htag:∀t,fh t cs'->fh t cs):
  ∃ω',FR c N U e (h.set l []++[cs']) a w S (β++[(b,x.size)]) γ lam ω'/\(β++[(b,x.size)])[h.length]? = some (b,x.size)/\il β (β++[(b,x.size)]):=by
 obtain⟨n,hb⟩:=hb;obtain⟨h1,h3,h4,h5⟩:=H.heap.of_row hl hne hb hrow;rw[hb]at h1;cases h1;have h2:=hrow;have hlt:l<h.length:=by
  rcases XT l h.length with h'|h'
  ·exact h'
  ·grind
 have hext:il β (β++[(b,x.size)]):=fun l b hb=>by
  grind
 have hnew:(β++[(b,x.size)])[h.length]? = some (b,x.size):=by rw[<- H.hlen];simp
 have hωb:∀k,ω k≠.heap l->k≠b:=fun k hk=>ZU
 have hω:∀k,ω k≠.heap l->fl ω b (.heap h.length) k=ω k:=fun k hk=>by unfold fl;grind
 refine⟨fl ω b (.heap h.length),⟨H.wf,H.gro,H.keep,H.le,il.trans H.ext hext,by simp[H.hlen],?_,H.tsz,?_,H.grps,?_,?_,?_,H.used⟩,hnew,hext⟩
 ·refine H.heap.rows (aD.le_refl S) hext H.hlen fun j ds hj hd=>?_;rcases XT j h.length with hlj|hge
  ·grind
  ·rw[XZ (by simpa using hge)]at hj;have hjz:j=h.length:=by
    rcases Yc (j-h.length)with h0|h0
    ·omega
    ·grind
   subst hjz;simp only[YR,Y9,List.getElem?_cons_zero,Xq]at hj;subst hj;exact .inr ⟨b,x,hnew,hrow,by simp[fl],hcs.mono (aD.le_refl S) hext,h5,fun t ht=>H.heap.tag hl (htag t ht) hb⟩
 ·intro t' ht'
  have:=H.slots t' ht'
  cases hv:(e.get t').v with
  |val av=>rw[hv]at this;exact VR.mono (aD.le_refl S) hext _ _ this
  |loc B off=>rw[hv]at this;exact this
 ·intro B n hB;obtain⟨k1,k2,k3,k,z,k4,k5,k6,k7,k8⟩:=H.lblk B n hB;refine⟨k1,k2,k3,k,z,k4,k5,ZU,k7,fun i hi=>?_⟩;obtain⟨v,a',g1,g2,g3,g4⟩:=k8 i hi;exact⟨v,a',g1,g2,VR.mono (aD.le_refl S) hext _ _ g3,g4⟩
 ·intro g z hg;obtain⟨a',len,cap,g1,g2,g3,g4⟩:=H.free g z hg;refine⟨a',len,cap,g1,g2,g3,g4.imp id ?_⟩
  grind
 ·intro k hk;unfold fl at hk;split at hk
  ·rename_i hkk;subst hkk;exact⟨(H.mine k (by rw[h3];simp)).1.of_not (fun g=>by unfold fl;grind),(H.mine k (by rw[h3];simp)).2⟩
  ·rename_i hkk;exact⟨(H.mine k hk).1.of_eq (by unfold fl;rw[Xr hkk]),(H.mine k hk).2⟩
end
section
variable {c:Entry} {N:Nat} {U:Nat->Prop} {e:Env} {h:Hp} {a:Act} {w:World} {S:aD} {β:List cE} {γ:Nat->Value} {lam:Nat->Option Nat} {ω:Nat->Owner}
theorem FR.regrp(H:FR c N U e h a w S β γ lam ω){d:Option Tmp}{r:AV}{v:Value}{gid:Nat}{z:Option Nat}{g0:Option Nat}{w':World}{S':aD}{ω':Nat->Owner}(hd:∀t,d=some t->t<N)(hU:∀g,gid<=g->g<gid+1000->¬U g)(hwf:Wf S' w')(hg:Gro w w')(hle:S.le S')(hk:∀k,k<w.heap.size->(∀g,g0=some g->ω k≠.grp g)->w'.heap[k]? = w.heap[k]? /\∀o,S' k o=S k o)(hω:∀k,ω k≠.no->(∀g,g0=some g->ω k≠.grp g)->ω' k=ω k)(hmine:∀b,ω' b≠.no->iS c ω' b/\b<w'.heap.size)(hv:VR S' β r v)(hf:rM S' w' ω' gid z v):
  FR c N (fun g=>U g\/(gid<=g/\g<gid+1000)) (e.upd d { Upd.own r gid z with drop:=g0 }) h (a.put d v) w' S' β (fun g=>if g=gid then v else γ g) lam ω':=by
 have hget:∀t,(e.upd d { Upd.own r gid z with drop:=g0 }).get t=if d=some t then⟨.val r,some gid⟩else e.get t:=fun t=>by rw[cL];rfl
 have hal:(e.upd d { Upd.own r gid z with drop:=g0 }).al=(gid,z):: fZ e.al g0:=rfl;have hlb:(e.upd d { Upd.own r gid z with drop:=g0 }).lb=e.lb:=rfl;have hdl:∀B i:Nat,1000<=B->d≠some (B+i):=fun B i hB hh=>by have h1:B+i<N:=hd _ hh;have h2:=H.tsz.2;omega
 have hdrop:∀g y,aP (fZ e.al g0) g=some y->aP e.al g=some y/\g0≠some g:=by
  intro g y hg;cases g0 with
  |none=>exact⟨hg,ZV⟩
  |some k=>
   grind [fZ,np]
 have hne:∀t g,(e.get t).g=some g->g≠gid:=fun t g hg hh=>hU g ZS ZS (H.used.1 t g hg);have hna:∀g y,aP e.al g=some y->g≠gid:=fun g y hg hh=>hU g ZS ZS (H.used.2 g y hg);have halv:∀g y,g≠gid->aP ((gid,z):: fZ e.al g0) g=some y->aP e.al g=some y/\g0≠some g:=fun g y hg hy=>by
  rw[dc,Xr (fun h=>hg h.symm)]at hy
  grind
 have hrow:∀ {b x},Row w b x->(∀g,g0=some g->ω b≠.grp g)->Row w' b x:=fun hr hb=>hr.of_eq (hk _ hr.lt hb).1;have hsz:=hg.size;refine⟨hwf,H.gro.trans hg,fun b hb hE=>?_,aD.le_trans H.le hle,H.ext,H.hlen,?_,by rw[jw];exact H.tsz,fun t ht=>?_,fun t g y ht hgg hz=>?_,fun B n hB=>?_,fun g y hg=>?_,hmine,⟨fun t g hgg=>?_,fun g y hg=>?_⟩⟩
 ·have hnb:∀g,g0=some g->ω b≠.grp g:=fun g _ hbg=>by
   have:=(H.mine b (by rw[hbg];simp)).1.low
   grind
  have h1:=hk b (Nat.lt_of_lt_of_le hb H.size) hnb;have h2:=H.keep b hb hE
  grind
 ·exact H.heap.rows hle (il.refl β) H.hlen fun l cs hl _=>.inl ⟨hl,fun b hb ho=>by
   grind⟩
 ·rw[hget,jK a d v hd H.tsz.1];split
  ·exact hv
  ·have:=H.slots t ht
   cases hv:(e.get t).v with
   |val av=>rw[hv]at this;exact VR.mono hle (il.refl β) _ _ this
   |loc B off=>rw[hv]at this;exact this
 ·rw[hget]at hgg;rw[hal]at hz;rw[jK a d v hd H.tsz.1];split at hgg
  ·grind
  ·rename_i hdt;have hg:=hne t g hgg;rw[Xr hdt,Xr hg];exact H.grps t g y ht hgg (halv g y hg hz).1
 ·rw[hlb]at hB;obtain⟨h1,h2,h3,b,x,h4,h5,h6,h7,h8⟩:=H.lblk B n hB;have hnb:∀g,g0=some g->ω b≠.grp g:=fun g _=>by rw[h6];simp
  refine⟨h1,h2,h3,b,x,h4,hrow h5 hnb,ZU,fun o=>by rw[(hk b h5.lt hnb).2];exact h7 o,fun i hi=>?_⟩;rw[hget,Xr (hdl B i h2)];obtain⟨u,a',g1,g2,g3,g4⟩:=h8 i hi;refine⟨u,a',g1,g2,VR.mono hle (il.refl β) _ _ g3,fun g y hg hy=>?_⟩
  grind
 ·rw[hal]at hg;by_cases hgg:g=gid
  ·subst hgg;rw[dc,Xv rfl]at hg
   grind
  ·simp only[Xr hgg];obtain⟨h1,h2⟩:=halv g y hgg hg;obtain⟨a',len,cap,k1,k2,k3,k4⟩:=H.free g y h1;refine⟨a',len,cap,k1,k2,k3,k4.imp id ?_⟩;rintro⟨sz,b,off,x,j1,j2,j3,j4,j5,j6⟩;have hnb:∀g',g0=some g'->ω b≠.grp g':=fun g' hg'=>by
    grind
   exact⟨sz,b,off,x,j1,j2,hrow j3 hnb,j4,ZU,fun o ho=>by rw[(hk b j3.lt hnb).2];exact j6 o ho⟩
 ·rw[hget]at hgg;split at hgg
  ·grind
  ·exact .inl (H.used.1 t g hgg)
 ·rw[hal]at hg;by_cases hgg:g=gid
  ·grind
  ·exact .inl (H.used.2 g y (halv g y hgg hg).1)
omit [Dr]in
theorem GP{S:aD}{β:List cE}{es:List AV}{b off sz sz':Nat}(h:cJ S β es b off sz')(hok:dn sz es=true)(hne:es≠[]):sz'=sz:=by
 cases es with
 |nil=>grind
 |cons x es=>
  simp only[cJ]at h;simp only[dn,XP,Xu]at hok;obtain⟨⟨v,hv,hs,_⟩,_⟩:=h
  have:=(ku hok.1 hv).1
  omega
open Classical in
theorem FR.app(H:FR c N U e h a w S β γ lam ω){d:Option Tmp}{as bs:List AV}{vx v:Value}{w':World}{gid sz:Nat}{g0:Option Nat}{z:Option Nat}(hd:∀t,d=some t->t<N)(hU:∀g,gid<=g->g<gid+1000->¬U g)(hx:VR S β (.sl as) vx)(hoa:dn sz as=true)(hfree:(g0=none/\vx= .slice none 0 0)\/∃g,g0=some g/\rM S w ω g z vx)(hz:z=none\/z=some sz)(happ:Appended S β w sz as bs vx v w'):
  ∃S' ω',FR c N (fun g=>U g\/(gid<=g/\g<gid+1000)) (e.upd d { Upd.own (.sl (as++bs)) gid (some sz)with drop:=g0 }) h (a.put d v) w' S' β (fun g=>if g=gid then v else γ g) lam ω':=by
 cases happ with
 | same hb=>
  subst hb;refine⟨S,fun k=>if ∃g,g0=some g/\ω k= .grp g then .grp gid else ω k,H.regrp hd hU H.wf (Gro.refl _) (aD.le_refl S) (fun k _ _=>⟨rfl,fun _=>rfl⟩) ?_ ?_ (by simpa using hx) ?_⟩
  ·grind
  ·intro b hb
   (try simp only at hb)
   split at hb
   ·rename_i hg;obtain⟨g,_,hg⟩:=hg;exact⟨.inr ((H.mine b (by rw[hg];simp)).1.grp hg),(H.mine b (by rw[hg];simp)).2⟩
   ·rename_i hg;exact⟨(H.mine b hb).1.of_eq (Xr hg),(H.mine b hb).2⟩
  ·rcases hfree with⟨_,rfl⟩|⟨g,rfl,a',len,cap,h1,h2,h3,h4⟩
   ·exact⟨none,0,0,rfl,Xz _,fun _=>rfl,.inl rfl⟩
   ·refine⟨a',len,cap,h1,h2,h3,h4.imp id ?_⟩;rintro⟨sz',b,off,x,g1,g2,g3,g4,g5,g6⟩;have:sz'=sz:=by rcases hz with rfl|rfl<;>simp_all
    subst this;exact⟨sz',b,off,x,rfl,g2,g3,g4,ZW,g6⟩
 | place b off cap x cs hv hr hlt hc hb hf=>
  subst hv;rcases hfree with⟨_,hcon⟩|⟨g,rfl,a',len,cap',h1,h2,h3,h4⟩
  ·cases hcon
  ·simp only[Value.slice.injEq]at h1;obtain⟨rfl,rfl,rfl⟩:=h1;have hpos:0<bs.length:=Yp.2 hb;rcases h4 with h4|⟨sz',b',off',x',g1,g2,g3,g4,g5,g6⟩
   ·omega
   ·have:sz'=sz:=by rcases hz with rfl|rfl<;>simp_all
    subst this;simp only[Xq,Addr.mk.injEq]at g2;obtain⟨rfl,rfl,_⟩:=g2;cases hr.inj g3;have hcl:=hf.1;have hle:(as.length+bs.length)*sz'<=cap*sz':=XB _ hlt;rw[Nat.add_mul]at hle;have hynew:∀i,(x.toList.take (off+as.length*sz')++cs++x.toList.drop (off+as.length*sz'+cs.length)).toArray[i]? =
      if off+as.length*sz'<=i/\i<off+as.length*sz'+cs.length then cs[i-(off+as.length*sz')]? else x[i]?:=by
     intro i;have htl:(x.toList.take (off+as.length*sz')).length=off+as.length*sz':=by simp;omega
     simp only[Y4];by_cases hi:i<off+as.length*sz'
     ·grind
     ·by_cases hi2:i<off+as.length*sz'+cs.length
      ·grind
      ·rw[XZ ZX,YN,Xr ZS,Zi]
       grind
    generalize hy:(x.toList.take (off+as.length*sz')++cs++x.toList.drop (off+as.length*sz'+cs.length)).toArray=y at hynew
    -- the new stable cells
    refine⟨fun k o=>if k=b/\off+as.length*sz'<=o/\o<off+as.length*sz'+cs.length then cs[o-(off+as.length*sz')]? else S k o,fl ω b (.grp gid),?_⟩;have hleS:S.le (fun k o=>if k=b/\off+as.length*sz'<=o/\o<off+as.length*sz'+cs.length then cs[o-(off+as.length*sz')]? else S k o):=by
     intro k o v hv
     (try simp only)
     rw[Xr]
     ·exact hv
     ·grind
    have hysz:y.size=x.size:=by
     rw[<- hy];simp;omega
    refine H.regrp hd hU (fun k o v hv=>?_) (Gro.setRow hr _) hleS (fun k hk hkg=>?_) (fun k hk hkg=>?_) (fun k hk=>?_) ?_ ?_
    ·(try simp only at hv)
     split at hv
     ·rename_i hc';obtain⟨rfl,h1,h2⟩:=hc';rw[hr.setRow.cell,hynew,Xv ⟨h1,h2⟩];exact hv
     ·rename_i hc';by_cases hkb:k=b
      ·subst hkb;have hcell:=H.wf k o v hv;rw[hr.cell]at hcell;rw[hr.setRow.cell,hynew,Xr (fun h=>hc' ⟨rfl,h⟩)];exact hcell
      ·rw[cell_of_heap (ff w b y hkb)];exact H.wf k o v hv
    ·have hkb:k≠b:=by rintro rfl;exact hkg g rfl g5
     exact⟨ff w b y hkb,fun o=>ZU⟩
    ·unfold fl
     grind
    ·unfold fl at hk;split at hk
     ·rename_i hkb;subst hkb
      have:=H.mine k (by rw[g5];simp)
      exact⟨.inr (this.1.grp g5),ZW⟩
     ·rename_i hkb
      have:=H.mine k hk
      exact⟨this.1.of_eq (by unfold fl;rw[Xr hkb]),ZW⟩
    ·-- the value
     simp only[VR]at hx |-;obtain⟨a2,cap2,he,hc2,hn2,hs2⟩:=hx;simp only[Value.slice.injEq]at he;obtain⟨rfl,_,rfl⟩:=he;refine⟨some ⟨b,off,none⟩,cap,ZV,by simpa using hlt,(fun h=>by cases h),fun q hq=>?_⟩;simp only[Xq]at hq;subst hq;obtain⟨_,sz2,hel⟩:=hs2 _ rfl;refine⟨fun _=>rfl,sz',?_⟩;have hels:cJ S β as b off sz':=by
      by_cases hne:as=[]
      ·subst hne;simp[cJ]
      ·grind [GP]
     refine cJ.append (cJ.mono hleS (il.refl β) _ _ _ _ hels) (.of_get fun i x' hx'=>?_);obtain⟨v',hv1,hv2,hv3⟩:=hf.2.1 i x' hx';refine⟨v',VR.mono hleS (il.refl β) _ _ hv1,hv2,fun j u hu=>?_⟩;have hcs:=hv3 j u (by simpa using hu);simp only[Y4]at hcs;have hlt':i*sz'+j<cs.length:=by
      rcases XT (i*sz'+j) cs.length with h|h
      ·exact h
      ·grind
     (try simp only)
     rw[Xv ⟨by trivial,ZS,ZS⟩];rw[show off+as.length*sz'+i*sz'+j-(off+as.length*sz')=i*sz'+j by omega];exact hcs
    ·refine⟨some ⟨b,off,none⟩,as.length+bs.length,cap,rfl,hlt,(fun h=>by cases h),.inr ⟨sz',b,off,y,rfl,rfl,hr.setRow,ZU,by simp[fl],fun o ho=>?_⟩⟩
     grind
 | fresh x t cap hlt hc hr hb=>
  have H2:=(H.drew).allocS x t ((as++bs).length*sz);have hsz:w.drew.heap.size=w.heap.size:=rfl;have hωn:ω w.heap.size= .no:=by
   cases ho:ω w.heap.size with
   |no=>rfl
   |_=>have:=(H.mine w.heap.size (by rw[ho];simp)).2;omega
  have hle:(as.length+bs.length)*sz<=cap*sz:=XB _ hlt;refine⟨S.withRowTo w.heap.size ((as++bs).length*sz) x,fl ω w.heap.size (.grp gid),H.regrp hd hU H2.wf ((Gro.drew w).trans (Gro.alloc w.drew x t)) ?_ (fun k hk _=>⟨by rw[alloc_old _ _ (by simpa using hk)];rfl,fun o=>?_⟩) (fun k hk _=>?_) (fun k hk=>?_) ?_ ?_⟩
  ·intro k o v hv;unfold aD.withRowTo;split
   ·rename_i hk;subst hk;rw[H.wf.none (Xz _)]at hv;simp at hv
   ·exact hv
  ·unfold aD.withRowTo;grind
  ·unfold fl
   grind
  ·unfold fl at hk;split at hk
   ·rename_i hkk;subst hkk;exact⟨.inr H.size,ZV⟩
   ·rename_i hkk
    have:=H.mine k hk
    exact⟨this.1.of_eq (by unfold fl;rw[Xr hkk]),by simp;omega⟩
  ·simp only[VR];refine⟨some ⟨w.heap.size,0,none⟩,cap,ZV,by simpa using hlt,(fun h=>by cases h),fun q hq=>?_⟩;simp only[Xq]at hq;subst hq;refine⟨fun _=>rfl,sz,.of_get fun i x' hx'=>?_⟩;obtain⟨v',hv1,hv2,hv3⟩:=hr i x' hx';have hi:i<(as++bs).length:=by
    rcases XT i (as++bs).length with h|h
    ·exact h
    ·grind
   refine⟨v',VR.mono (fun k o v hv=>?_) (il.refl β) _ _ hv1,hv2,fun j u hu=>?_⟩
   ·unfold aD.withRowTo;split
    ·rename_i hk;subst hk;rw[H.wf.none (Xz _)]at hv;simp at hv
    ·exact hv
   ·have hj:j<sz:=by
     rcases XT j v'.cells.toList.length with h|h
     ·grind
     ·grind
    have hm:(i+1)*sz<=(as++bs).length*sz:=XB _ hi;rw[Nat.add_mul]at hm;unfold aD.withRowTo
    grind
  ·refine⟨some ⟨w.heap.size,0,none⟩,as.length+bs.length,cap,rfl,hlt,(fun h=>by cases h),.inr ⟨sz,w.heap.size,0,x,rfl,rfl,Row.new w.drew x t,ZS,by simp[fl],fun o ho=>?_⟩⟩;unfold aD.withRowTo
   grind
end
def cW(p:Upd->Prop):Act1->Prop
 |.bad=>True
 |.stat u=>p u
 |.dyn _ sh=>∀v,p (sh v)
 |.thr _=>True
omit [Dr]in
theorem cW.cond{p:Upd->Prop}{b:Bool}{x y:Act1}(h1:b=true->cW p x)(h2:b=false->cW p y):cW p (bif b then x else y):=by
 grind
structure Shape (e:Env) (gid:Nat) (f:Foot) (ss:Option Nat) (u:Upd):Prop where
 ls:f.wl=false->u.ls=[]
 lb:f.wl=false->u.lb=none
 unlb:f.wl=false->u.unlb=none
 add:f.wl=false->∀x∈u.add,x.1=gid
 noad:f.ad=false->u.add=[]
 nodr:f.dr=false->u.drop=none
 loc:f.wl=false->∀C off,u.ent.v= .loc C off->∃t off',(e.get t).v= .loc C off'
 keys:∀x∈u.ls,1000<=x.1\/ss=some x.1
section
omit [Dr]
theorem Shape.ofV(e:Env)(gid:Nat)(f:Foot)(ss:Option Nat)(a:AV):Shape e gid f ss (.ofV a):=
 ⟨fun _=>rfl,fun _=>rfl,fun _=>rfl,fun _ x h=>by simp[Upd.ofV]at h,fun _=>rfl,fun _=>rfl,fun _ C off h=>by simp[Upd.ofV]at h,fun x h=>by simp[Upd.ofV]at h⟩
theorem Shape.own(e:Env)(gid:Nat)(f:Foot)(ss:Option Nat)(a:AV)(z:Option Nat)(h:f.ad=true):Shape e gid f ss (.own a gid z):=
 ⟨fun _=>rfl,fun _=>rfl,fun _=>rfl,fun _ x h=>by simp[Upd.own]at h;rw[h],fun h'=>ZU,fun _=>rfl,fun _ C off h=>by simp[Upd.own]at h,fun x h=>by simp[Upd.own]at h⟩
theorem Shape.ent(e:Env)(gid:Nat)(f:Foot)(ss:Option Nat)(x:Ent)(h:∀C off,x.v= .loc C off->∃t off',(e.get t).v= .loc C off'):Shape e gid f ss { ent:=x } :=
 ⟨fun _=>rfl,fun _=>rfl,fun _=>rfl,fun _ x h=>by simp at h,fun _=>rfl,fun _=>rfl,fun _ C off h'=>h C off h',fun x h=>by simp at h⟩
theorem Shape.get(e:Env)(gid:Nat)(f:Foot)(ss:Option Nat)(t:Nat):Shape e gid f ss { ent:=e.get t }:=.ent _ _ _ _ _ fun _ off h=>⟨t,off,h⟩
theorem q6{B n gid:Nat}{cs:List AV}{offs:List Nat}(hB:1000<=B):∀x∈kp B cs offs gid n,1000<=x.1:=by
 intro x hx;unfold kp at hx
 grind
theorem Al{offs:List Nat}{gid:Nat}(h:offs.isEmpty=true):qX offs gid=[]:=by
 have:offs=[]:=by simpa using h
 subst this;rfl
end
variable {cx:Cx} {e:Env} {gid:Nat} {o:Oper}
section
omit [Dr]
theorem uO(told:Bool)(x:Operand)(f:Foot)(hf:f.ad=bu x):cW (Shape e gid f none) (kR told e gid x):=by
 unfold kR;split
 ·exact Shape.get ..
 ·cases h:bu x with
  |true=>
   cases told with
   |true=>exact Shape.ofV ..
   |false=>exact Shape.own _ _ _ _ _ _ (by rw[hf,h])
  |false=>exact Shape.ofV ..
theorem An{e:Env}{B off n:Nat}(h:kZ e B off n=true):∃m,ba e.lb B=some m/\off+n<=m/\1000<=B:=by
 grind [kZ]
theorem Ff{e:Env}{B off n:Nat}(h:kZ e B off n=true):∃m,ba e.lb B=some m/\off+n<=m/\1000<=B/\B % 1000=0/\m<=1000:=by
 grind [kZ]
theorem pt(d:Option Tmp)(t:TypeId)(p:Nat)(f:Foot):cW (Shape e gid f none) (fc cx e d t p):=by
 unfold fc;split
 ·split
  ·trivial
  ·cases kZ e _ _ _ with
   |false=>trivial
   | true=>
    simp only[Xw];rename_i ti _;cases ti.agg with
    |true=>exact Shape.ofV ..
    |false=>
     simp only[XD];cases decide (ti.size=1)with
     |true=>exact Shape.get ..
     |false=>trivial
 ·cases bL cx.ann.hl d with
  |true=>exact fun v=>Shape.ofV ..
  |false=>exact fun v=>Shape.ofV ..
theorem Shape.wl{e:Env}{gid:Nat}{f:Foot}{ss:Option Nat}{u:Upd}(hw:f.wl=true)(h1:f.ad=false->u.add=[])(h2:u.drop=none)(h3:∀x∈u.ls,1000<=x.1\/ss=some x.1):Shape e gid f ss u:=
 ⟨fun h=>ZU,fun h=>ZU,fun h=>ZU,fun h=>ZU,h1,fun _=>h2,fun h=>ZU,h3⟩
theorem Bn(t p:Nat)(y:Operand)(f:Foot)(hw:f.wl=true)(ha:f.ad=(!(fW cx.ann.nils p).isEmpty||bu y)):cW (Shape e gid f (some p)) (gX cx e gid t p y):=by
 unfold gX;split
 ·rename_i B off _;split
  ·trivial
  ·rename_i ti _;cases hlb:kZ e B off ti.size with
   |false=>trivial
   | true=>
    obtain⟨m,_,_,hB⟩:=An hlb;simp only[Xw];cases Fh (dl cx.ann.kinds p .L)with
    | true=>
     simp only[Xw];cases pH e B off p ti.size with
     |false=>trivial
     |true=>
      simp only[Xw];exact fun v=>Shape.wl hw (fun _=>rfl) rfl (fun x hx=>ZU)
    | false=>
     simp only[XD];cases ti.agg with
     |true=>
      simp only[Xw];refine fun v=>Shape.wl hw (fun h=>?_) rfl (fun x hx=>.inl (q6 ZS x hx))
      grind [Al]
     | false=>
      simp only[XD];cases decide (ti.size=1)with
      |false=>trivial
      | true=>
       simp only[Xw];split
       ·split
        ·exact fun v=>Shape.wl hw (fun _=>rfl) rfl (fun x hx=>ZU)
        ·trivial
       ·cases hn:bu y with
        |true=>
         refine Shape.wl hw (fun h=>?_) rfl (fun x hx=>ZU)
         grind
        |false=>exact fun v=>Shape.wl hw (fun _=>rfl) rfl (fun x hx=>ZU)
 ·exact fun v=>Shape.ofV ..
theorem zZ(t p i:Nat)(f:Foot):cW (Shape e gid f none) (kv cx e t p i):=by
 unfold kv;split
 ·rename_i B off hv;split
  ·trivial
  ·split
   ·trivial
   ·split
    ·trivial
    ·rename_i fi _;cases decide (fi.size=0)with
     |true=>trivial
     |false=>exact Shape.ent _ _ _ _ _ fun C o' h=>⟨p,off,ZU⟩
 ·exact fun v=>Shape.ofV ..
theorem Ar(t p:Nat)(i:Operand)(f:Foot):cW (Shape e gid f none) (eV cx e t p i):=by
 unfold eV;split
 ·rename_i B off hv;split
  ·split
   ·split
    ·trivial
    ·refine cW.cond (p:=Shape e gid f none) (y:=.bad) (fun _=>?_) (fun _=>trivial);exact Shape.ent _ _ _ _ _ fun C o' h=>⟨p,off,ZU⟩
   ·trivial
  ·trivial
 ·exact fun v=>Shape.ofV ..
theorem zt(s t:Nat)(f:Foot)(hf:f=(match dl cx.ann.kinds s .L with|.F=>{}|.H=>{ wh:=true }|.B=>{ wh:=true }|_=>{ wl:=true,ad:=!(fW cx.ann.nils s).isEmpty })):cW (Shape e gid f none) (fR cx e gid s t):=by
 unfold fR;split
 ·trivial
 ·rename_i ti _;have key:f.wl=true->(f.ad= !(fW cx.ann.nils s).isEmpty)->cW (Shape e gid f none) (match fW cx.ann.nils s with
   | offs=>bif decide (ti.size<1000)&&aT e.sl (aL s)&&iI (dC true ti) offs ti.size then
     .stat { ent:=⟨.loc (aL s) 0,none⟩,ls:=kp (aL s) (dC (dP cx.ann.hb s) ti) offs gid ti.size,add:=qX offs gid,lb:=some (aL s,ti.size) }else .bad):=by
   intro hw ha;simp only;cases decide (ti.size<1000)&&aT e.sl (aL s)&&iI (dC true ti) (fW cx.ann.nils s) ti.size with
   |false=>trivial
   |true=>exact Shape.wl hw (fun h=>Al ZU) rfl (fun x hx=>.inl (q6 (by unfold aL;omega) x hx))
  cases hk:dl cx.ann.kinds s .L with
  |F=>exact Shape.ofV ..
  |H=>exact fun v=>Shape.ofV ..
  |B=>exact fun v=>Shape.ofV ..
  |L=>grind
  |S=>grind
theorem EI(s t:Nat)(x:Operand)(f:Foot)(hf:f=(match dl cx.ann.kinds s .F with|.F=>{}|.H=>{ wh:=true }|.B=>{ wh:=true }|_=>{ wl:=true })):cW (Shape e gid f none) (nM cx e s t x):=by
 unfold nM;have key:f.wl=true->cW (Shape e gid f none) (match cx.T t with
  |none=>.bad
  | some ti=>bif decide (ti.size<1000)&&aT e.sl (aL s)then
    .dyn (cg ti.size (opnd e x)) fun v=>{ ent:=⟨.loc (aL s) 0,none⟩,ls:=kp (aL s) (aa v) [] 0 ti.size,lb:=some (aL s,ti.size) }
   else .bad):=by
  intro hw;split
  ·trivial
  ·rename_i ti _;cases decide (ti.size<1000)&&aT e.sl (aL s)with
   |false=>trivial
   |true=>exact fun v=>Shape.wl hw (fun _=>rfl) rfl (fun x hx=>.inl (q6 (by unfold aL;omega) x hx))
 cases hk:dl cx.ann.kinds s .F with
 |F=>exact Shape.ofV ..
 |H=>exact fun v=>Shape.ofV ..
 |B=>trivial
 |L=>grind
 |S=>grind
theorem BU(c:Call)(f:Foot)(ho:o.op= .call c)(hf:f=az cx o):cW (Shape e gid f none) (ib cx e gid o c):=by
 unfold ib;cases hc:c.callee with
 |invoke r m=>trivial
 | value x=>
  cases x with
  | func g=>
   simp only;refine cW.cond (fun _=>cW.cond (fun _ v=>Shape.ofV ..) (fun _=>trivial)) fun _=>?_;split
   ·exact cW.cond (fun _ v=>Shape.ofV ..) (fun _=>trivial)
   intro v;cases ho':cx.own g with
   |none=>exact Shape.ofV ..
   |some z=>
    grind [Shape.own,az]
  |tmp t=>exact fun v=>Shape.ofV ..
  |const t=>exact fun v=>Shape.ofV ..
  |global t=>exact fun v=>Shape.ofV ..
 | builtin b=>
  cases b<;>simp only<;>(try trivial)
  case clear=>
   split
   ·exact fun v=>Shape.ofV ..
   ·trivial
  case append=>
   split
   ·rename_i t u x y hts hxs;cases jR cx.T u with
    |false=>trivial
    | true =>
     simp only[XR,XD];cases hha:bL cx.ann.ha o.dst with
     |true=>exact fun v=>Shape.ofV ..
     | false=>
      have hfa:f.ad=true/\f.wl=false/\f.dr= !bu x:=by
       rw[hf];unfold az;rw[ho];simp only[hc,hha,XD,hxs];exact⟨trivial,trivial,trivial⟩
      cases hn:bu x with
      |true=>exact fun v=>Shape.own _ _ _ _ _ _ hfa.1
      | false=>
       simp only[XD];split
       ·split
        ·trivial
        ·split
         ·trivial
         ·rename_i z _;cases y9 z (dN cx.T t)with
          |false=>trivial
          |true=>
           simp only[Xw];intro v;have hdr:f.dr=true:=by rw[hfa.2.2,hn];rfl
           exact⟨fun _=>rfl,fun _=>rfl,fun _=>rfl,fun _ x h=>by simp[Upd.own]at h;rw[h],fun h'=>ZU,fun h'=>ZU,fun _ C off h=>by simp[Upd.own]at h,fun x h=>by simp[Upd.own]at h⟩
       ·trivial
   ·trivial
  case len=>
   split
   ·exact fun v=>Shape.ofV ..
   ·trivial
  case min=>exact fun v=>Shape.ofV ..
  case max=>exact fun v=>Shape.ofV ..
theorem wY(f:Foot)(ss:Option Nat){one:Bool}(A:Act1):cW (Shape e gid f ss) (Np one A):=by
 cases A with
 |bad=>trivial
 |stat u=>exact fun v=>Shape.ofV ..
 |dyn m sh=>exact fun v=>Shape.ofV ..
 |thr v=>trivial
theorem om(cx:Cx)(e:Env)(gid:Nat)(o:Oper):cW (Shape e gid (az cx o) (cT o)) (gS cx e gid o):=by
 have hss:(∀t p y,o.op≠.store t (.tmp p) y)->cT o=none:=by
  intro h;unfold cT;split
  ·grind
  ·rfl
 unfold gS;cases ho:o.op
 case store t x y=>
  simp only;cases x<;>(try trivial);rename_i p;cases hd:o.dst with
  |some d=>trivial
  |none=>
   have h1:cT o=some p:=by unfold cT;rw[ho]
   rw[h1];refine cW.cond (fun _=>?_) fun hs=>cW.cond (fun _=>trivial) fun _=>Bn t p y _ (by simp_all[az]) (by simp_all[az]);unfold xt;split
   ·trivial
   ·exact fun v=>Shape.ofV ..
 all_goals
  have hs0:=hss ZU;rw[hs0];simp only
 case move x=>grind [uO,az]
 case assign x=>grind [uO,az]
 case box t x=>
  cases hd:o.dst with
  |none=>trivial
  |some s=>grind [EI,az]
 case alloc t=>
  cases hd:o.dst with
  |none=>trivial
  |some s=>grind [zt,az]
 case load t x=>
  cases x
  case tmp p=>
   simp only;split
   ·split
    ·trivial
    ·exact fun v=>Shape.ofV ..
   ·rename_i hlm;exact cW.cond (fun _=>trivial) (fun _=>cW.cond (fun _=>wY _ _ _) (fun _=>pt ..))
  all_goals first|exact cW.cond (fun _=>trivial) (fun _=>cW.cond (fun _=>wY _ _ _) (fun _=>pt ..))|exact fun v=>Shape.ofV ..|trivial
 case buildSlice=>
  cases hha:bL cx.ann.ha o.dst with
  |true=>exact fun v=>Shape.ofV ..
  |false=>
   intro v;cases hno:bL cx.ann.no o.dst with
   |true=>exact Shape.ofV ..
   |false=>grind [Shape.own,az]
 case makeSlice=>
  cases hha:bL cx.ann.ha o.dst with
  |true=>exact fun v=>Shape.ofV ..
  |false=>exact fun v=>Shape.own _ _ _ _ _ _ (by unfold az;grind)
 case slice t x lo hi mx=>
  cases hso:bL cx.ann.so o.dst with
  | true=>
   simp only[Xw];unfold qm;have hf:az cx o= { ad:=true,dr:=true }:=by unfold az;rw[ho];simp only[hso,Xw]
   rw[hf];split
   ·split
    ·trivial
    ·split
     ·exact cW.cond (fun _ v=>⟨fun _=>rfl,fun _=>rfl,fun _=>rfl,fun _ x h=>by simp[Upd.own]at h;rw[h],fun h'=>(by cases h'),fun h'=>(by cases h'),fun _ C off h=>by simp[Upd.own]at h,fun x h=>by simp[Upd.own]at h⟩) fun _=>trivial
     ·trivial
   ·trivial
  |false=>
  simp only[XD];cases mx with
  |none=>exact fun v=>Shape.ofV ..
  |some m=>exact fun v=>Shape.own _ _ _ _ _ _ (by simp_all[az])
 case nilCheck x=>
  cases x<;>(try trivial);simp only;split
  ·exact Shape.get ..
  ·exact fun v=>Shape.ofV ..
 case fieldAddr t x i=>cases x<;>first|exact zZ ..|trivial
 case indexAddr t x i=>cases x<;>first|exact Ar ..|exact fun v=>Shape.ofV ..|trivial
 case call c=>exact BU c _ ho rfl
 case panic x=>exact fun v=>Shape.ofV ..
 case makeFunc=>exact Shape.ofV ..
 case makeMap=>exact cW.cond (fun _=>trivial) fun _ v=>Shape.ofV ..
 case mapUpdate=>unfold nN;split;exact fun v=>Shape.ofV ..;trivial
 case insert=>unfold nN;split;exact fun v=>Shape.ofV ..;trivial
 case binOp=>exact cW.cond (fun _=>trivial) fun _ v=>Shape.ofV ..
 all_goals first|trivial|exact fun v=>Shape.ofV ..
end
end Go.Av
namespace Go.Av
variable [Dr]
def O3(o:Oper)(e e':Env):Prop:=((∀t,1000<=t->e'.get t=e.get t)/\∀B,ba e'.lb B=ba e.lb B)\/
 ∃t p,o.op= .load t (.tmp p)/\∀B off,(e.get p).v= .loc B off->ba e'.lb B=ba e.lb B/\(1000<=B->B % 1000=0->∀k,k<1000->e'.get (B+k)=e.get (B+k))
structure Agree (cx:Cx) (o:Oper) (e e':Env):Prop where
 ops:∀t∈ic o,e'.get t=e.get t
 loc:((az cx o).rl||(az cx o).wl)=true->O3 o e e'
 al:(az cx o).dr=true->∀g,aP e'.al g=aP e.al g
 lf:(az cx o).wl=true->∀s,o.dst=some s->aT e.sl (aL s)=true->aT e'.sl (aL s)=true
section
variable {cx:Cx} {e e':Env} {gid:Nat} {o:Oper}
section
omit [Dr]
theorem Agree.get(A:Agree cx o e e'){t:Nat}(h:Operand.tmp t∈o.op.operands.toList):e'.get t=e.get t:=
 A.ops t (Za.2 ⟨.tmp t,h,rfl⟩)
theorem Agree.opnd(A:Agree cx o e e'){x:Operand}(h:x∈o.op.operands.toList):opnd e' x=opnd e x:=by
 cases x with
 |tmp t=>simp only[Av.opnd,Env.av];rw[A.get h]
 |const v=>rfl
 |func f=>rfl
 |global g=>rfl
theorem Agree.opnds(A:Agree cx o e e'){l:List Operand}(h:∀x∈l,x∈o.op.operands.toList):l.map (Av.opnd e')=l.map (Av.opnd e):=
 YL fun x hx=>A.opnd (h x hx)
theorem Agree.parts(A:Agree cx o e e'){l:List (Nat×Operand)}(h:∀x∈l,x.2∈o.op.operands.toList):l.map (fun p=>(p.1,Av.opnd e' p.2))=l.map (fun p=>(p.1,Av.opnd e p.2)):=
 YL fun x hx=>by rw[A.opnd (h x hx)]
theorem sf(h:∀t,1000<=t->e'.get t=e.get t){B:Nat}(hB:1000<=B):∀n,m0 e' B n=m0 e B n
 |0=>rfl
 |n+1=>by
  simp only[m0,Env.av];rw[sf h hB n,h (B+n) ZS]
theorem pZ{B off:Nat}(h:∀k,k<1000->e'.get (B+k)=e.get (B+k)):∀n,off+n<=1000->m0 e' (B+off) n=m0 e (B+off) n
 |0,_=>rfl
 |n+1,hn=>by
  simp only[m0,Env.av];rw[pZ h n ZS,Nat.add_assoc,h (off+n) ZS]
theorem Am{B:Nat}(h:ba e'.lb B=ba e.lb B)(off n:Nat):kZ e' B off n=kZ e B off n:=by
 unfold kZ;rw[h]
theorem ut(h:∀B,ba e'.lb B=ba e.lb B)(B off n:Nat):kZ e' B off n=kZ e B off n:=by
 unfold kZ;rw[h]
theorem zg(h:∀B,ba e'.lb B=ba e.lb B)(B off p n:Nat):pH e' B off p n=pH e B off p n:=by
 unfold pH;rw[h]
theorem uN{told:Bool}{x:Operand}(A:Agree cx o e e')(h:x∈o.op.operands.toList):kR told e' gid x=kR told e gid x:=by
 unfold kR;cases x with
 |tmp t=>simp only;rw[A.get h]
 |_=>rfl
theorem Cv{d:Option Tmp}{t:TypeId}{p:Nat}(A:Agree cx o e e')(hp:Operand.tmp p∈o.op.operands.toList)(hf:(az cx o).rl=true\/kP (e.get p)=false):fc cx e' d t p=fc cx e d t p:=by
 unfold fc;rw[A.get hp];cases hv:(e.get p).v with
 |val a=>rfl
 | loc B off=>
  replace hf:(az cx o).rl=true:=hf.elim id fun h=>by simp[kP,hv]at h
  simp only;cases cx.T t with
  |none=>rfl
  | some ti=>
   rcases A.loc (by rw[hf];rfl)with⟨h1,h2⟩|⟨t',p',ho,h3⟩
   ·simp only;rw[ut h2];cases hlb:kZ e B off ti.size with
    |false=>rfl
    |true=>
     grind [An,sf]
   ·have hpp:p=p':=by rw[ho]at hp;simpa [Op.operands]using hp
    subst hpp;obtain⟨h4,h5⟩:=h3 B off hv;simp only;rw[Am h4];cases hlb:kZ e B off ti.size with
    |false=>rfl
    |true=>
     obtain⟨m,_,hm,hB,hB0,hm0⟩:=Ff hlb;rw[pZ (h5 hB hB0) _ ZS]
     grind
theorem Bl{t:TypeId}{p:Nat}{y:Operand}(A:Agree cx o e e')(hp:Operand.tmp p∈o.op.operands.toList)(hy:y∈o.op.operands.toList)(hf:(az cx o).wl=true):gX cx e' gid t p y=gX cx e gid t p y:=by
 unfold gX;rw[A.get hp,A.opnd hy];obtain⟨h1,h2⟩:(∀t,1000<=t->e'.get t=e.get t)/\∀B,ba e'.lb B=ba e.lb B:=(A.loc (by rw[hf];simp)).elim id fun⟨t,p,ho,_⟩=>by
  grind [az]
 cases hv:(e.get p).v with
 |val a=>rfl
 | loc B off=>
  simp only;cases cx.T t with
  |none=>rfl
  |some ti=>
   simp only;rw[ut h2,zg h2];cases y with
   |tmp s=>simp only;rw[A.get hy]
   |_=>rfl
theorem zY{t:TypeId}{p i:Nat}(A:Agree cx o e e')(hp:Operand.tmp p∈o.op.operands.toList):kv cx e' t p i=kv cx e t p i:=by
 unfold kv;rw[A.get hp]
theorem Aq{t:TypeId}{p:Nat}{i:Operand}(A:Agree cx o e e')(hp:Operand.tmp p∈o.op.operands.toList)(hi:i∈o.op.operands.toList):eV cx e' t p i=eV cx e t p i:=by
 unfold eV;rw[A.get hp,A.opnd hi]
theorem zr{s:Nat}{t:TypeId}(A:Agree cx o e e')(hs:o.dst=some s)(hf:dl cx.ann.kinds s .L≠.F->dl cx.ann.kinds s .L≠.H->dl cx.ann.kinds s .L≠.B->(az cx o).wl=true)(hb:fR cx e gid s t≠.bad):fR cx e' gid s t=fR cx e gid s t:=by
 unfold fR at hb |-;cases ht:cx.T t with
 |none=>rfl
 | some ti=>
  rw[ht]at hb;simp only at hb |-;cases hk:dl cx.ann.kinds s .L<;>rw[hk]at hb hf<;>simp only at hb |-
  all_goals
   have hw:=hf ZV ZV ZV;cases hl:aT e.sl (aL s)with
   |false=>grind
   |true=>rw[A.lf hw s hs hl]
theorem EH{s:Nat}{t:TypeId}{x:Operand}(A:Agree cx o e e')(hs:o.dst=some s)(hx:x∈o.op.operands.toList)(hf:dl cx.ann.kinds s .F≠.F->dl cx.ann.kinds s .F≠.H->dl cx.ann.kinds s .F≠.B->(az cx o).wl=true)(hb:nM cx e s t x≠.bad):nM cx e' s t x=nM cx e s t x:=by
 unfold nM at hb |-;rw[A.opnd hx];cases hk:dl cx.ann.kinds s .F<;>rw[hk]at hb hf<;>simp only at hb |-
 all_goals
  cases ht:cx.T t with
  |none=>rfl
  |some ti=>
   rw[ht]at hb;simp only at hb |-;have hw:=hf ZV ZV ZV;cases hl:aT e.sl (aL s)with
   |false=>grind
   |true=>rw[A.lf hw s hs hl]
theorem BR{c:Call}(A:Agree cx o e e')(ho:o.op= .call c):ib cx e' gid o c=ib cx e gid o c:=by
 have hargs:∀x∈c.args.toList,x∈o.op.operands.toList:=fun x hx=>by
  grind [Op.operands,Call.operands]
 have hT:∀b:Bool,c.args.toList.map (oQ b e')=c.args.toList.map (oQ b e):=fun b=>by
  refine YL fun x hx=>?_;unfold oQ uQ;rw[A.opnd (hargs x hx)]
 unfold ib;rw[A.opnds hargs,hT];cases hc:c.callee with
 |invoke r m=>rfl
 |value f=>
  have hf:f∈o.op.operands.toList:=by rw[ho];simp[Op.operands,Call.operands,hc]
  cases f with
  |func g=>rfl
  |_=>simp only;rw[A.opnd hf]
 | builtin b=>
  cases b<;>simp only
  case clear=>
   split
   ·rename_i t ts x xs hts hxs;rw[A.opnd (hargs x (by rw[hxs];simp))]
   ·rfl
  case len=>
   split
   ·rename_i t ts x xs hts hxs;rw[A.opnd (hargs x (by rw[hxs];simp))]
   ·rfl
  case append=>
   split
   ·rename_i t u x y hts hxs;have hx:=hargs x (by rw[hxs];simp);rw[A.opnd hx,A.opnd (hargs y (by rw[hxs];simp))];cases jR cx.T u with
    |false=>rfl
    | true=>
     simp only[XR,XD];cases hha:bL cx.ann.ha o.dst with
     | true=>
      have hns:gW e' x=gW e x:=by
       cases x with
       | tmp s=>
        have hdr:(az cx o).dr=true:=by
         unfold az;rw[ho];simp only[hc,hha,Xw]
        unfold gW;simp only;rw[A.get hx];cases (e.get s).g with
        |none=>rfl
        |some g=>simp only;rw[A.al hdr]
       |_=>rfl
      grind
     | false=>
      simp only[XD];cases hn:bu x with
      |true=>rfl
      | false=>
       simp only[XD];cases x with
       | tmp s=>
        simp only;rw[A.get hx];have hdr:(az cx o).dr=true:=by
         unfold az;rw[ho];simp only[hc,hha,XD,hxs,hn];rfl
        cases (e.get s).g with
        |none=>rfl
        |some g=>simp only;rw[A.al hdr]
       |_=>rfl
   ·rfl
theorem FB(A:Agree cx o e e')(hb:gS cx e gid o≠.bad):gS cx e' gid o=gS cx e gid o:=by
 have hm:∀ {x:Operand},x∈o.op.operands.toList->opnd e' x=opnd e x:=fun h=>A.opnd h;unfold gS at hb |-;cases ho:o.op<;>rw[ho]at hb hm<;>simp only[Op.operands]at hm hb |-
 case move x=>grind [uN,Op.operands]
 case assign x=>grind [uN,Op.operands]
 case pick k x y=>grind
 case box t x=>
  cases hd:o.dst with
  |none=>rfl
  |some s=>
   rw[hd]at hb;exact EH A hd (by rw[ho];simp[Op.operands]) (fun h1 h2 h3=>by unfold az;grind) hb
 case alloc t=>
  cases hd:o.dst with
  |none=>rfl
  |some s=>
   rw[hd]at hb;exact zr A hd (fun h1 h2 h3=>by unfold az;grind) hb
 case load t x=>
  cases x with
  | tmp p=>
   simp only;rw[A.get (t:=p) (by rw[ho];simp[Op.operands])];cases hlm:jy cx.ann.lm o.dst with
   |some x=>rfl
   |none=>
   cases hnl:bL cx.ann.nl o.dst&&kP (e.get p)with
   |true=>rfl
   |false=>
    grind [Cv,Op.operands,az]
  |_=>rfl
 case store t x y=>
  cases x with
  | tmp p=>
   cases hd:o.dst with
   |some d=>rfl
   | none=>
    simp only;cases hs:vg cx p with
    |true=>
     simp only[Xw];unfold xt;rw[A.get (t:=p) (by rw[ho];simp[Op.operands]),A.opnd (x:=y) (by rw[ho];simp[Op.operands])]
    |false=>
     simp only[XD];rw[A.get (t:=p) (by rw[ho];simp[Op.operands]),Bl A (by rw[ho];simp[Op.operands]) (by rw[ho];simp[Op.operands]) (by simp_all[az])]
  |_=>rfl
 case build t ps=>rw[A.parts (l:=ps.toList) (fun p hp=>by grind [Op.operands])]
 case buildSlice t n ps=>rw[A.parts (l:=ps.toList) (fun p hp=>by grind [Op.operands])]
 case nilCheck x=>
  cases x with
  |tmp p=>simp only;rw[A.get (by rw[ho];simp[Op.operands])]
  |_=>rfl
 case binOp op t x y u=>
  grind [uQ]
 case unOp op t x=>grind
 case convert s t x=>grind
 case makeInterface t x=>grind
 case makeFunc f x y=>
  rw[A.opnds (l:=x.toList) (fun z hz=>by grind [Op.operands]),A.opnds (l:=y.toList) (fun z hz=>by grind [Op.operands])]
 case makeSlice t x y=>grind
 case slice t x lo hi mx=>
  have h1:∀z:Option Operand,(∀y,z=some y->y∈o.op.operands.toList)->z.map (opnd e')=z.map (opnd e):=by
   intro z hz;cases z with
   |none=>rfl
   |some y=>simp only[YC];rw[A.opnd (hz y rfl)]
  have hcut:qm cx e' gid t x lo hi mx=qm cx e gid t x lo hi mx\/bL cx.ann.so o.dst=false:=by
   cases hso:bL cx.ann.so o.dst with
   |false=>exact .inr rfl
   | true=>
    refine .inl ?_;unfold qm;cases x with
    |tmp s=>
     have hdr:(az cx o).dr=true:=by unfold az;rw[ho];simp only[hso,Xw]
     simp only[A.get (t:=s) (by rw[ho];simp[Op.operands]),A.al hdr,hm (x:=.tmp s) ZV,h1 lo (fun y hy=>by rw[ho];simp[Op.operands,hy])]
    |_=>rfl
  grind
 case fieldAddr t x i=>
  grind [zY,Op.operands]
 case indexAddr t x i=>
  grind [Aq,Op.operands]
 case field t x f=>grind
 case index t x i=>grind
 case extract x i=>grind
 case lookup t x i ok=>grind
 case mapUpdate t m k x=>simp_all[nN]
 case insert t m k x=>simp_all[nN]
 all_goals grind [BR]
end
end
def df(β:List cE)(h:Hp)(b:Nat):Prop:=∃(l:Nat)(cs:List AV)(n:Nat),h[l]? = some cs/\cs≠[]/\β[l]? = some (b,n)
def dE(S:aD)(β:List cE)(w:World)(h:Hp):Prop:=β.length=h.length/\∃ω,im S β w ω h
def wk(S:aD)(β:List cE)(h:Hp)(w:World):Prop:=GOKw w/\(∀b,b<gN->¬df β h b)/\OS S
structure Left (E:Nat->Prop) (S:aD) (β:List cE) (w:World) (S':aD) (β':List cE) (w':World) (h':Hp):Prop where
 le:S.le S'
 ext:il β β'
 wf:Wf S' w'
 gro:Gro w w'
 keep:∀b,b<w.heap.size->¬E b->w'.heap[b]? = w.heap[b]? /\∀o,S' b o=S b o
 heap:dE S' β' w' h'
 owned:∀b,df β' h' b->E b\/w.heap.size<=b
theorem Left.size{E:Nat->Prop}{S:aD}{β:List cE}{w:World}{S':aD}{β':List cE}{w':World}{h':Hp}(L:Left E S β w S' β' w' h'):w.heap.size<=w'.heap.size:=L.gro.size
def xT(n0:Nat)(S':aD)(β':List cE)(w':World)(h':Hp)(sz:Nat)(v:Value):Prop:=
 ∃a len cap,v= .slice a len cap/\len<=cap/\(a=none->cap=0)/\(len=cap\/∃b off x,a=some ⟨b,off,none⟩/\Row w' b x/\off+cap*sz<=x.size/\n0<=b/\¬df β' h' b/\
  ∀o,off+len*sz<=o->S' b o=none)
def fg(own:Option Nat)(S:aD)(β:List cE)(h:Hp)(w:World)(r:R AV)(en:Ending)(w':World):Prop:=
 match r with
 |.ok rv h'=>∃S' β' v,en= .returned v/\VR S' β' rv v/\Left (df β h) S β w S' β' w' h'/\∀sz,own=some sz->xT w.heap.size S' β' w' h' sz v
 |.pan pv h'=>∃S' β' v,en= .panicked [{ v,recovered:=false }]/\VR S' β' pv v/\Left (df β h) S β w S' β' w' h'
 |.fail=>False
def dD(P:Program)(own:FuncId->Option Nat)(call:FuncId->List AV->M AV):Prop:=
 ∀(f:FuncId)(args:List AV)(h:Hp)(S:aD)(β:List cE)(w:World)(vs:List Value),call f args h≠.fail->wk S β h w->Wf S w->dE S β w h->bB S β args vs->
  Calls P f vs.toArray w (fg (own f) S β h w (call f args h))/\(P.funcs[f]?).any (fun fn=>fn.body.isSome&&!(fn.name== "runtime.NumGoroutine"))=true
section
variable {c:Entry} {N:Nat} {U:Nat->Prop} {e:Env} {h:Hp} {a:Act} {w:World} {S:aD} {β:List cE} {γ:Nat->Value} {lam:Nat->Option Nat} {ω:Nat->Owner}
theorem FR.hown(H:FR c N U e h a w S β γ lam ω){b:Nat}(hb:df β h b):∃l n,ω b= .heap l/\b<w.heap.size/\β[l]? = some (b,n)/\∀o,S b o=none:=by
 obtain⟨l,cs,n,h1,h2,h3⟩:=hb;obtain⟨b',x,k1,k2,k3,k5⟩:=H.heap.own h1 h2
 grind
theorem FR.heapX(H:FR c N U e h a w S β γ lam ω):dE S β w h:=⟨H.hlen,ω,H.heap⟩
open Classical in
theorem FR.left(H:FR c N U e h a w S β γ lam ω){S':aD}{β':List cE}{w':World}{h':Hp}(L:Left (df β h) S β w S' β' w' h'):
  ∃ω',FR c N U e h' a w' S' β' γ lam ω'/\(∀b,w.heap.size<=b->¬df β' h' b->ω' b= .no):=by
 obtain⟨hlen,ω2,hh⟩:=L.heap;have hnb:∀b,ω b≠.no->(∀l,ω b≠.heap l)->¬df β h b/\¬df β' h' b/\b<w.heap.size:=by
  intro b hb hl;have hlt:=(H.mine b hb).2;have h1:¬df β h b:=fun ho=>by obtain⟨l,_,h3,_⟩:=H.hown ho;exact hl l h3
  refine⟨h1,fun ho=>?_,hlt⟩;rcases L.owned b ho with h2|h2
  ·exact h1 h2
  ·omega
 let ω':Nat->Owner:=fun b=>if df β' h' b then ω2 b else match ω b with|.heap _=>.no|o=>o
 have hω':∀b,ω b≠.no->(∀l,ω b≠.heap l)->ω' b=ω b:=by
  intro b hb hl;obtain⟨_,h2,_⟩:=hnb b hb hl;show (if df β' h' b then ω2 b else _)=_;rw[Xr h2];cases ho:ω b<;>first|rfl|grind
 have hrow:∀ {b x},Row w b x->ω b≠.no->(∀l,ω b≠.heap l)->Row w' b x/\∀o,S' b o=S b o:=by
  intro b x hr hb hl;obtain⟨h1,_,h3⟩:=hnb b hb hl;exact⟨hr.of_eq (L.keep b h3 h1).1,(L.keep b h3 h1).2⟩
 refine⟨ω',⟨L.wf,H.gro.trans L.gro,fun b hb hE=>?_,aD.le_trans H.le L.le,il.trans H.ext L.ext,hlen,?_,H.tsz,?_,H.grps,?_,?_,?_,H.used⟩,?_⟩
 ·have h1:¬df β h b:=fun ho=>by
   obtain⟨l,_,h3,_⟩:=H.hown ho;rcases (H.mine b (by rw[h3];simp)).1.low with h|h
   all_goals grind
  have h2:=L.keep b (Nat.lt_of_lt_of_le hb H.size) h1;have h3:=H.keep b hb hE
  grind
 ·intro l cs hl hne;have hown:∀b n,β'[l]? = some (b,n)->ω2 b= .heap l->ω' b= .heap l:=fun b n h1 h3=>by
   show (if df β' h' b then ω2 b else _)=_;rw[Xv ⟨l,cs,_,hl,hne,h1⟩];exact h3
  rcases hh l cs hl hne with⟨b,x,h1,h2,h3,h4⟩|⟨b,h1,h3,h4⟩
  all_goals grind
 ·intro t ht
  have:=H.slots t ht
  cases hv:(e.get t).v with
  |val av=>rw[hv]at this;exact VR.mono L.le L.ext _ _ this
  |loc B off=>rw[hv]at this;exact this
 ·intro B n hB;obtain⟨k1,k2,k3,b,x,k4,k5,k6,k7,k8⟩:=H.lblk B n hB;have hr:=hrow k5 (by rw[k6];simp) (by rw[k6];simp);refine⟨k1,k2,k3,b,x,k4,hr.1,ZU,fun o=>ZU,fun i hi=>?_⟩;obtain⟨v,a',g1,g2,g3,g4⟩:=k8 i hi;exact⟨v,a',g1,g2,VR.mono L.le L.ext _ _ g3,g4⟩
 ·intro g z hg;obtain⟨a',len,cap,g1,g2,g3,g4⟩:=H.free g z hg;refine⟨a',len,cap,g1,g2,g3,g4.imp id ?_⟩
  grind
 ·intro b hb;by_cases ho:df β' h' b
  ·have hlt:b<w'.heap.size/\∃l,ω2 b= .heap l:=by
    obtain⟨l,cs,n,h1,h2,h3⟩:=ho;obtain⟨b',x,k1,k2,k3,_⟩:=hh.own h1 h2;rw[h3]at k1;cases k1;exact⟨k2,l,k3⟩
   obtain⟨hlt,l2,hl2⟩:=hlt;refine⟨?_,hlt⟩;rcases L.owned b ho with h1|h1
   ·obtain⟨l,_,h3,_⟩:=H.hown h1;refine (H.mine b (by rw[h3];simp)).1.of_not fun g=>?_
    grind
   ·exact .inr (XM H.size h1)
  ·have hb':(match ω b with|.heap _=>.no|o=>o)≠Owner.no:=by
    have:ω' b=(match ω b with|.heap _=>.no|o=>o):=by
     show (if df β' h' b then ω2 b else _)=_;rw[Xr ho]
    rw[<- this];exact hb
   have:ω b≠.no:=by
    intro hn;rw[hn]at hb';exact hb' rfl
   exact⟨(H.mine b this).1.of_eq (hω' b this fun l hl=>ZU),Nat.lt_of_lt_of_le (H.mine b this).2 L.size⟩
 grind
end
theorem FR.gok{c:Entry}{N:Nat}{U:Nat->Prop}{e:Env}{h:Hp}{a:Act}{w:World}{S:aD}{β:List cE}{γ:Nat->Value}{lam:Nat->Option Nat}{ω:Nat->Owner}(H:FR c N U e h a w S β γ lam ω):wk S β h w:=
 ⟨H.gokw,fun b hb ho=>by
  obtain⟨l,_,h3,_⟩:=H.hown ho;rcases (H.mine b (by rw[h3];simp)).1.low with h|h
  ·exact c.gok.2.1 b hb h
  ·have:=c.gok.1.lt;omega,c.gok.2.2.mono H.le⟩
def Out(c:Entry)(h':Hp)(w':World)(S':aD)(β':List cE):Prop:=Left c.E c.S c.β c.w S' β' w' h'
theorem FR.out{c:Entry}{N:Nat}{U:Nat->Prop}{e:Env}{h:Hp}{a:Act}{w:World}{S:aD}{β:List cE}{γ:Nat->Value}{lam:Nat->Option Nat}{ω:Nat->Owner}(H:FR c N U e h a w S β γ lam ω):Out c h w S β:=
 ⟨H.le,H.ext,H.wf,H.gro,H.keep,H.heapX,fun b hb=>by
  obtain⟨l,_,h3,_⟩:=H.hown hb;exact (H.mine b (by rw[h3];simp)).1.low⟩
def fU(c:Entry)(N:Nat)(U:Nat->Prop)(e:Env)(h:Hp)(a:Act)(w:World):Prop:=∃S β γ lam ω,FR c N U e h a w S β γ lam ω
def UG(U:Nat->Prop)(gid:Nat):Nat->Prop:=fun g=>U g\/(gid<=g/\g<gid+1000)
theorem FR.wider{c:Entry}{N:Nat}{U V:Nat->Prop}{e:Env}{h:Hp}{a:Act}{w:World}{S:aD}{β:List cE}{γ:Nat->Value}{lam:Nat->Option Nat}{ω:Nat->Owner}(H:FR c N U e h a w S β γ lam ω)(hUV:∀g,U g->V g):FR c N V e h a w S β γ lam ω:=
 ⟨H.wf,H.gro,H.keep,H.le,H.ext,H.hlen,H.heap,H.tsz,H.slots,H.grps,H.lblk,H.free,H.mine,⟨fun t g hg=>hUV g (H.used.1 t g hg),fun g z hg=>hUV g (H.used.2 g z hg)⟩⟩
theorem fU.wider{c:Entry}{N:Nat}{U V:Nat->Prop}{e:Env}{h:Hp}{a:Act}{w:World}(H:fU c N U e h a w)(hUV:∀g,U g->V g):fU c N V e h a w:=
 let ⟨S,β,γ,lam,ω,F⟩:=H;⟨S,β,γ,lam,ω,F.wider hUV⟩
def oW(c:Entry)(pv:AV)(h':Hp)(v:Value)(w':World):Prop:=∃S' β',Out c h' w' S' β'/\VR S' β' pv v
def After(P:Program)(c:Entry)(N:Nat)(U:Nat->Prop)(r:R Env)(o:Oper)(a:Act)(w:World):Prop:=
 ∀(next:Act->World->Prop)(Q:Exit->Act->World->Prop),(∀e' h' a' w',r= .ok e' h'->fU c N U e' h' a' w'->a'.defers=a.defers->next a' w')->
  (∀pv h' v w',r= .pan pv h'->oW c pv h' v w'->Q (.panic [{ v,recovered:=false }]) a w')->o.wp P a w next Q
omit [Dr]in
theorem put_defers(a:Act)(d:Option Tmp)(v:Value):(a.put d v).defers=a.defers:=by cases d<;>rfl
theorem After.val{P:Program}{c:Entry}{N:Nat}{U:Nat->Prop}{e':Env}{h':Hp}{o:Oper}{a:Act}{w w':World}{v:Value}(hrun:(execOp a.eval o).run P w= .ok (.value v) w')(H:fU c N U e' h' (a.put o.dst v) w'):After P c N U (.ok e' h') o a w:=by
 intro next Q hn _
 unfold Oper.wp;rw[hrun];exact hn e' h' _ _ rfl H (put_defers a o.dst v)
theorem After.skip{P:Program}{c:Entry}{N:Nat}{U:Nat->Prop}{e':Env}{h':Hp}{o:Oper}{a:Act}{w w':World}(hd:o.dst=none)(hrun:(execOp a.eval o).run P w= .ok .skip w')(H:fU c N U e' h' a w'):After P c N U (.ok e' h') o a w:=by
 intro next Q hn _
 unfold Oper.wp;rw[hrun];have:a.put o.dst undef=a:=by rw[hd];rfl
 simp only[Oper.upon]
 grind
end Go.Av
