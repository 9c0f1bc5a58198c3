/- The abstract evaluator of the model and plain laws, part 4: its soundness holds for every program whose table of types is the evaluator's. No further condition. -/
import Derived.Test.YtblddnfanlkgiaaGreatLc
set_option linter.defProp false
set_option linter.unusedSimpArgs false
set_option linter.unusedVariables false
namespace Go.Av
def xD{p:Pg}(hO:dk p){fake:FuncId->List AV->M AV}(hf:∀f args,sH (fake f args) (af p f args)){n:Nat}{f:FuncId}{args:List AV}{h:Hp}{r:R AV}(hr:gw p fake (c9 n) f args h=r)(hne:r≠.fail):af p f args h=r:=by
 have a:=kh (p:=p) hO (call:=af p) (calls:=fun m f=>if m=0 then fake f else af p f) (fun f args x=>by
  refine⟨fun _=>⟨1,fun m hm=>?_⟩,fun m hne=>?_⟩
  ·(try dsimp only)
   rw[if_neg (by omega)]
  ·(try dsimp only at hne |-)
   by_cases h0:m=0
   ·rw[JV h0]at hne |-;exact hf f args x hne
   ·rw[if_neg h0]) (jL n) (jL n) (fun _=>jL n) f args h
 have b:=kh (p:=p) hO (call:=af p) (calls:=fun _=>af p) (fun f=>bA.const _) nh vf (fun n=>jL n) f args h;have a1:=a.2 0
 (try dsimp only at a1)
 have e1:=a1 (by simp only[J0];rw[hr];exact hne);simp only[J0]at e1;have b1:=b.2 n
 (try dsimp only at b1)
 have e2:=b1 (by rw[<- e1,hr];exact hne);rw[lk hO,<- e2,<- e1,hr]
mutual
def tZ:AV->AV->Bool
 |.bool a,b=>match b with|.bool c=>a== c|_=>false
 |.int k n,b=>match b with|.int l m=>decide (k=l)&&decide (n=m)|_=>false
 |.str s,b=>match b with|.str t=>decide (s=t)|_=>false
 |.agg l,b=>match b with|.agg m=>se l m|_=>false
 |.sl l,b=>match b with|.sl m=>se l m|_=>false
 |.any,_=>false|.nilp,_=>false|.nilf,_=>false|.nili,_=>false|.tup _,_=>false|.ip _,_=>false|.hp _ _,_=>false|.hs _ _ _ _ _,_=>false
 |.hn,_=>false|.fn _ _ _,_=>false|.iface _ _,_=>false|.mp _,_=>false|.nilm,_=>false|.nilb _,_=>false|.byt _ _,_=>false|.it _,_=>false
def se:List AV->List AV->Bool
 |[],m=>match m with|[]=>true|_:: _=>false
 |a:: l,m=>match m with|[]=>false|b:: m=>tZ a b&&se l m
end
mutual
theorem Cm:∀(a b:AV),tZ a b=true->a=b
 |.bool a,b,h=>by cases b<;>simp_all[tZ]
 |.int k n,b,h=>by cases b<;>simp_all[tZ]
 |.str s,b,h=>by cases b<;>simp_all[tZ]
 |.agg l,b,h=>by
  cases b<;>simp only[tZ,JL]at h;rw[nZ _ _ h]
 |.sl l,b,h=>by
  cases b<;>simp only[tZ,JL]at h;rw[nZ _ _ h]
 |.any,_,h|.nilp,_,h|.nilf,_,h|.nili,_,h|.tup _,_,h|.ip _,_,h|.hp _ _,_,h|.hs _ _ _ _ _,_,h|.hn,_,h|.fn _ _ _,_,h|.iface _ _,_,h|.mp _,_,h|.nilm,_,h|.nilb _,_,h|.byt _ _,_,h|.it _,_,h=>by simp[tZ]at h
theorem nZ:∀(l m:List AV),se l m=true->l=m
 |[],m,h=>by cases m<;>simp_all[se]
 | a:: l,m,h=>by
  cases m with
  |nil=>simp[se]at h
  |cons b m=>
   simp only[se,JN]at h;rw[Cm _ _ h.1,nZ _ _ h.2]
end
noncomputable def AH(p:Pg)(g:FuncId)(n:Nat):List (List AV×AV)->FuncId->List AV->M AV
 |[],f,args=>bif Nat.beq f g then M.fail else cw p n f args
 |(a,r):: t,f,args=>bif Nat.beq f g&&se (df ar args) a then M.pure r else AH p g n t f args
theorem xk{p:Pg}(hO:dk p)(g:FuncId){B:List AV->M AV}(hB:∀args,af p g args=aJ (B (df ar args)))(n:Nat):∀(t:List (List AV×AV)),(∀x∈t,df ar x.1=x.1/\af p g x.1=M.pure x.2)->∀f args,sH (AH p g n t f args) (af p f args)
 |[],_,f,args=>by
  unfold AH;cases Nat.beq f g with
  |true=>exact fun x hne=>absurd rfl hne
  |false=>exact fun x hne=>(ir hO f args x).2 n hne
 | (a,r):: t,ht,f,args=>by
  unfold AH;cases hb:Nat.beq f g&&se (df ar args) a with
  | true=>
   simp only[JN]at hb;have h1:f=g:=J2 hb.1;have h2:=nZ _ _ hb.2;have h3:=ht (a,r) (by simp);have e:af p f args=M.pure r:=by
    rw[<- h3.2,h1,hB args,hB a,h2,h3.1]
   intro x _;exact (congrFun e x).symm
  |false=>exact xk hO g hB n t (fun x hx=>ht x (by simp[hx])) f args
end Go.Av
