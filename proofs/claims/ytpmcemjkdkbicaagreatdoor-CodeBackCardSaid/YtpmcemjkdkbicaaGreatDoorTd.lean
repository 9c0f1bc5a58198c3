/- What the functions of the seat compute, part 4: the texts of the claim, one behind the other. Conditions: bounds, as each theorem names them. -/
import Derived.Test.YtpmcemjkdkbicaaGreatDoorTc
import Derived.Lib.SmallJoins
set_option linter.defProp false
set_option linter.unusedSimpArgs false
set_option linter.unusedVariables false
namespace Go.Proofs.YtpmcemjkdkbicaaGreatDoor
open Go Go.Av Go.Av.Ap
set_option maxRecDepth 100000
def Hr(hl:List Int):Hp:=[hl.map (AV.int .i64)]
theorem lC{n k:Nat}(h:k<n):am T 60 (.hs 0 0 n 1 false) (.int .i64 (k:Int))=some (.hp 0 (0+k*1)):=by
 have e:am T 60 (.hs 0 0 n 1 false) (.int .i64 (k:Int))=if 0<=(k:Int)/\(k:Int)<(n:Int)then some (.hp 0 (0+(k:Int).toNat*1))else none:=rfl;rw[e,CW (by omega),Dn]
def jE{hl:List Int}{k:Nat}(h:k<hl.length):di T 3 (.hp 0 (0+k*1)) (Hr hl)= .ok (.int .i64 hl[k]!) (Hr hl):=by
 refine rc (T:=T) (t:=3) rfl rfl (cs:=hl.map (AV.int .i64)) rfl ?_;rw[Ds,Eh,DN,Dc h,Dl hl k h];rfl
def setCells_one(cs:List AV)(k:Nat)(x:AV)(h:k<cs.length):setCells cs k [x]=cs.set k x:=by
 unfold setCells;rw[List.set_eq_take_append_cons_drop,CW h];simp
def yZ{hl:List Int}{k:Nat}(h:k<hl.length)(v:Int):dG T 3 (.hp 0 (0+k*1)) (.int .i64 v) (Hr hl)= .ok (.tup []) (Hr (hl.set k v)):=by
 have st:=oE (T:=T) (t:=3) rfl (v:=.int .i64 v) (h:=Hr hl) (l:=0) (k:=0+k*1) (cs:=hl.map (AV.int .i64)) rfl rfl (show 0+k*1+1<=(hl.map (AV.int .i64)).length by simp;omega) (by decide);rw[st];show R.ok (AV.tup []) [setCells (hl.map (AV.int .i64)) (0+k*1) [.int .i64 v]]=_;rw[Ds,Eh,setCells_one _ _ _ (by simpa using h)];unfold Hr;rw[List.map_set]
theorem wG(a b:Int):ao T .neq 3 (.int .i64 a) (.int .i64 b)=some (.bool (!decide (a=b))):=rfl
theorem yK(v:Int):ap T 3 (.ip (ab (.int .i64 v)))=some (.int .i64 v):=rfl
theorem Cg(v:Int):bb T 60 1 [(0,.int .i64 v)]=some (ints [v]):=rfl
theorem jI(v50:List AV->M AV){c:Cod}{n:Nat}(hn:c.code.length=n)(hnb:n<=1000000){k:Nat}(hk:k<n){nd gv:Int}(h0:0<=nd)(g0:0<=gv)(g1:gv<=1){nx:List Int}(hnx:nx.length<=2)(hx:∀v∈nx,0<=v/\v<=n):
  ∀(B A hl td:List Int),A++B=nx->HInv n hl->nd<=hl[k]! ->td.length+B.length<=10000000->
  (∃h',dM n k nd gv B hl td=none/\ah (L18_0 (ai pg) ah v50) [.ip (ab c.av),.hs 0 0 n 1 false,ints td,.int .i64 (k:Int),.int .i64 nd,.int .i64 gv,ints nx,.int .i64 nx.length,.int .i64 A.length] (Hr hl)= .ok (.tup [.sl [],.bool false]) h')\/
  (∃hl' td',dM n k nd gv B hl td=some (hl',td')/\ah (L18_0 (ai pg) ah v50) [.ip (ab c.av),.hs 0 0 n 1 false,ints td,.int .i64 (k:Int),.int .i64 nd,.int .i64 gv,ints nx,.int .i64 nx.length,.int .i64 A.length] (Hr hl)=v50 [.ip (ab c.av),.hs 0 0 n 1 false,ints td'] (Hr hl'))
 |[],A,hl,td,e,H,hd,hb=>by
  rw[DX]at e;subst e;refine .inr ⟨hl,td,rfl,?_⟩;have h1:¬((A.length:Int)<(A.length:Int)):=by omega
  rw[FL18_0];simp -implicitDefEqProofs only[L18_0,ar,az,aB,aj,ak,CU,if_neg h1]
 | v :: B,A,hl,td,e,H,hd,hb=>by
  have hlen:A.length+(B.length+1)=nx.length:=by rw[<- e];simp
  have h1:(A.length:Int)<(nx.length:Int):=by omega
  have hix:=zv (l:=nx) (n:=(A.length:Int)) (by omega) h1;have hxx:nx[A.length]! = v:=by rw[Dl nx A.length (by omega)];simp[<- e]
  rw[Dn,hxx]at hix;have hv:=hx v (by rw[<- e];simp);have hw:IntKind.i64.wrap ((A.length:Int)+1)=((A++[v]).length:Nat):=by rw[bv (by omega) (by omega)];simp
  simp only[Dq]at hb;have hcl:((c.code.length:Nat):Int)=n:=by rw[hn]
  by_cases hvn:v=n
  ·refine .inl ⟨Hr hl,by simp[dM,hvn],?_⟩;rw[FL18_0];simp -implicitDefEqProofs only[L18_0,ar,az,aB,aj,ak,CU,CW h1,hix,yK,fK3,m9,hJ,hcl,eu,CW hvn];rfl
  obtain⟨p,rfl⟩:∃p:Nat,v=(p:Int):=⟨v.toNat,by omega⟩;have hp:p<n:=by omega
  have hpl:p<hl.length:=by rw[H.len];exact hp
  have hkl:k<hl.length:=by rw[H.len];exact hk
  have hkk:=H.hi k hk;have hs1:IntKind.i64.wrap (hl[k]! - nd)=hl[k]! - nd:=bv (by omega) (by omega);have hs2:IntKind.i64.wrap (hl[k]! - nd+gv)=hl[k]! - nd+gv:=bv (by omega) (by omega);by_cases hneg:hl[p]! < 0
  ·have hI:=H.set hp hneg (x:=hl[k]! - nd+gv) (by omega) (by omega);have hpk:¬p=k:=fun e=>by rw[e]at hneg;omega
   have ih:=jI v50 hn hnb hk h0 g0 g1 hnx hx B (A++[(p:Int)]) (hl.set p (hl[k]! - nd+gv)) (td++[(p:Int)]) (by rw[<- e];simp) hI (by rw[iM hpl hkl,if_neg hpk];exact hd) (by simp;omega);have hap:dH T 60 (ints td) (ints [(p:Int)])=some (ints (td++[(p:Int)])):=Bo (by simp;omega);have eS:dM n k nd gv ((p:Int):: B) hl td=dM n k nd gv B (hl.set p (hl[k]! - nd+gv)) (td++[(p:Int)]):=by
    simp only[dM,Dn];rw[if_neg hvn,CW hneg]
   have eL:ah (L18_0 (ai pg) ah v50) [.ip (ab c.av),.hs 0 0 n 1 false,ints td,.int .i64 (k:Int),.int .i64 nd,.int .i64 gv,ints nx,.int .i64 nx.length,.int .i64 A.length] (Hr hl)=ah (L18_0 (ai pg) ah v50) [.ip (ab c.av),.hs 0 0 n 1 false,ints (td++[(p:Int)]),.int .i64 (k:Int),.int .i64 nd,.int .i64 gv,ints nx,.int .i64 nx.length,.int .i64 (A++[(p:Int)]).length] (Hr (hl.set p (hl[k]! - nd+gv))):=by
    rw[FL18_0];simp -implicitDefEqProofs only[L18_0,ar,az,aB,aj,ak,CU,CW h1,hix,yK,fK3,m9,hJ,hcl,eu,if_neg hvn,lC hp,lC hk];rw[bd (jE hpl)];simp -implicitDefEqProofs only[aB,aj,ak,CU,CW hneg];rw[bd (jE hkl)];simp -implicitDefEqProofs only[gU,bm,aj,hs1,hs2];rw[bd (yZ hpl _)];simp -implicitDefEqProofs only[Cg,aj,hap,bm,hw]
   rw[eS,eL];exact ih
  ·by_cases hq:hl[p]! = hl[k]! - nd+gv
   ·have ih:=jI v50 hn hnb hk h0 g0 g1 hnx hx B (A++[(p:Int)]) hl td (by rw[<- e];simp) H hd (by omega);have eS:dM n k nd gv ((p:Int):: B) hl td=dM n k nd gv B hl td:=by
     simp only[dM,Dn];rw[if_neg hvn,if_neg hneg,if_neg (by simpa using hq)]
    have eL:ah (L18_0 (ai pg) ah v50) [.ip (ab c.av),.hs 0 0 n 1 false,ints td,.int .i64 (k:Int),.int .i64 nd,.int .i64 gv,ints nx,.int .i64 nx.length,.int .i64 A.length] (Hr hl)=ah (L18_0 (ai pg) ah v50) [.ip (ab c.av),.hs 0 0 n 1 false,ints td,.int .i64 (k:Int),.int .i64 nd,.int .i64 gv,ints nx,.int .i64 nx.length,.int .i64 (A++[(p:Int)]).length] (Hr hl):=by
     rw[FL18_0];simp -implicitDefEqProofs only[L18_0,ar,az,aB,aj,ak,CU,CW h1,hix,yK,fK3,m9,hJ,hcl,eu,if_neg hvn,lC hp,lC hk];rw[bd (jE hpl)];simp -implicitDefEqProofs only[aB,aj,ak,CU,if_neg hneg];rw[bd (jE hpl),bd (jE hkl)];simp -implicitDefEqProofs only[gU,bm,aj,hs1,hs2,wG,Dm hq,D3,C2,Dk,ak,hw]
    rw[eS,eL];exact ih
   ·refine .inl ⟨Hr hl,?_,?_⟩
    ·simp only[dM,Dn];rw[if_neg hvn,if_neg hneg,CW hq]
    ·rw[FL18_0];simp -implicitDefEqProofs only[L18_0,ar,az,aB,aj,ak,CU,CW h1,hix,yK,fK3,m9,hJ,hcl,eu,if_neg hvn,lC hp,lC hk];rw[bd (jE hpl)];simp -implicitDefEqProofs only[aB,aj,ak,CU,if_neg hneg];rw[bd (jE hpl),bd (jE hkl)];simp -implicitDefEqProofs only[gU,bm,aj,hs1,hs2,wG,DF hq,Et,Dv,ak];rfl
def mK{α β γ:Type}(m:M α)(f:α->M β)(g:β->M γ):ae (ae m f) g=ae m fun a=>ae (f a) g:=by
 funext h;simp only[ae];cases m h<;>rfl
def wP{n:Nat}{locals:Int}{i:Ins}(h:aP n locals i=true){k:Nat}(hk:k<n):∀v∈eZ i k,0<=v/\v<=n:=by
 intro v hv;unfold eZ at hv;split at hv
 ·cases hv
 split at hv
 ·rename_i h10;simp[aP,h10]at h;rw[Dp]at hv;omega
 split at hv
 ·rename_i h11;simp[aP,h11]at h;simp only[De,D2,Ev]at hv;omega
 ·rw[Dp]at hv;omega
theorem pS{c:Cod}{n:Nat}(hn:c.code.length=n)(hnb:n<=1000000)(hf:∀i∈c.code,aP n c.locals i=true):∀(f:Nat)(hl td:List Int),HInv n hl->td.length+2*lQ hl<f->f<=4000000->(∀v∈td,0<=v/\v<n)->
  (∃h',mA c.code f hl td=none/\ah (L18_1 (ai pg) ah) [.ip (ab c.av),.hs 0 0 n 1 false,ints td] (Hr hl)= .ok (.tup [.sl [],.bool false]) h')\/
  (∃hl',mA c.code f hl td=some hl'/\hl'.length=n/\ah (L18_1 (ai pg) ah) [.ip (ab c.av),.hs 0 0 n 1 false,ints td] (Hr hl)= .ok (.tup [.hs 0 0 n 1 false,.bool true]) (Hr hl'))
 |0,hl,td,H,hm,_,ht=>by omega
 |f+1,hl,[],H,hm,_,ht=>by
  refine .inr ⟨hl,rfl,H.len,?_⟩;have h1:¬((0:Int)<(([]:List Int).length:Int)):=by simp
  rw[FL18_1];simp -implicitDefEqProofs only[L18_1,ar,az,jl,cG,aj,ak,CU,if_neg h1];rfl
 | f+1,hl,v:: td,H,hm,hfb,ht=>by
  have hv:=ht v (by simp);obtain⟨k,rfl⟩:∃k:Nat,v=(k:Int):=⟨v.toNat,by omega⟩;have hk:k<n:=by omega
  have hkc:k<c.code.length:=by omega
  have hkl:k<hl.length:=by rw[H.len];exact hk
  have hlen:(0:Int)<(((k:Int):: td).length:Int):=by simp only[Dq];omega
  have hi0:am T 60 (ints ((k:Int):: td)) (.int .i64 0)=some (.ip (ab (.int .i64 (k:Int)))):=zv (l:=(k:Int):: td) (n:=0) (by omega) hlen;have hcut:ub T 60 (ints ((k:Int):: td)) (some (.int .i64 1))=some (ints td):=by
   have:=jN (T:=T) (t:=60) (e:=3) rfl rfl rfl (((k:Int):: td).map (AV.int .i64)) (nn _) (a:=1) (by omega) (by simp only[Ek,Dq];omega)
   exact this
  have hix:=zd hkc;rw[Dl c.code k hkc]at hix;have hi:=hf c.code[k] (DT hkc);obtain⟨b1,b2,b3,b4⟩:=pU hi;have hB:=t50 c hkc (by omega);have hN:=t49 c.code[k];have hck:c.code[k]! = c.code[k]:=Dl c.code k hkc;simp only[Dq]at hm;have hnl:(eZ c.code[k] k).length<=2:=by
   unfold eZ
   repeat' split
   all_goals simp
  have hnx:=wP hi hk;have z1:∀m:M (List AV),ay (.bool true) false 1 m=M.pure [.tup []]:=fun _=>rfl;have z2:∀m:M (List AV),ay (.tup []) true 1 m=M.pure [.tup []]:=fun _=>rfl;have z3:∀m:M (List AV),ay (.bool false) true 1 m=M.pure [.tup []]:=fun _=>rfl;have z4:∀m:M (List AV),ay (.bool false) false 1 m=m:=fun _=>rfl;have z5:∀m:M (List AV),ay (.bool true) true 1 m=m:=fun _=>rfl;by_cases hlt:hl[k]! < (bo c.code[k]).1
  ·refine .inl ⟨Hr hl,?_,?_⟩
   ·simp only[mA,Dn,hck];rw[CW (.inl hlt)]
   ·rw[FL18_1];simp -implicitDefEqProofs only[L18_1,ar,az,jl,cG,aj,ak,CU,CW hlen,hi0,yK,hcut,fK3,m9,hix,vR,hN,aw,bX,Db,DO,lC hk];rw[bd (jE hkl)];simp -implicitDefEqProofs only[aB,aj,Dm hlt,z1,z2,aw,ar,bJ,ak,Dv];rfl
  by_cases h18:c.code[k].op=18/\hl[k]! ≠1
  ·refine .inl ⟨Hr hl,?_,?_⟩
   ·simp only[mA,Dn,hck];rw[CW (.inr h18)]
   ·rw[FL18_1];simp -implicitDefEqProofs only[L18_1,ar,az,jl,cG,aj,ak,CU,CW hlen,hi0,yK,hcut,fK3,m9,hix,vR,hN,aw,bX,Db,DO,lC hk];rw[bd (jE hkl)];simp -implicitDefEqProofs only[aB,aj,DF hlt,z4,fJ0,xR,eu,Dm h18.1,aw,ar,z5,mK];rw[bd (jE hkl)];simp -implicitDefEqProofs only[wG,DF h18.2,Et,aj,aw,ar,bJ,cD,ak,Dv];rfl
  have hd:(bo c.code[k]).1<=hl[k]!:=by omega
  have eC:ah (L18_1 (ai pg) ah) [.ip (ab c.av),.hs 0 0 n 1 false,ints ((k:Int):: td)] (Hr hl)=ah (L18_0 (ai pg) ah (ah (L18_1 (ai pg) ah))) [.ip (ab c.av),.hs 0 0 n 1 false,ints td,.int .i64 (k:Int),.int .i64 (bo c.code[k]).1,.int .i64 (bo c.code[k]).2,ints (eZ c.code[k] k),.int .i64 (eZ c.code[k] k).length,.int .i64 0] (Hr hl):=by
   rw[FL18_1];simp -implicitDefEqProofs only[L18_1,ar,az,jl,cG,aj,ak,CU,CW hlen,hi0,yK,hcut,fK3,m9,hix,vR,hN,aw,bX,Db,DO,lC hk];rw[bd (jE hkl)];by_cases h8:c.code[k].op=18
   ·have h1:hl[k]! = 1:=EO fun e=>h18 ⟨h8,e⟩;simp -implicitDefEqProofs only[aB,aj,DF hlt,z4,fJ0,xR,eu,Dm h8,aw,ar,z5,mK];rw[bd (jE hkl)];simp -implicitDefEqProofs only[wG,Dm h1,D3,aj,aw,ar,bJ,cD,ak,C2,Dk,wK,hB,jl]
   ·simp -implicitDefEqProofs only[aB,aj,DF hlt,z4,fJ0,xR,eu,DF h8,aw,ar,z3,bJ,cD,ak,C2,Dk,wK,hB,jl]
  have eR:mA c.code (f+1) hl ((k:Int):: td)=match dM n k (bo c.code[k]).1 (bo c.code[k]).2 (eZ c.code[k] k) hl td with|none=>none|some (hl',td')=>mA c.code f hl' td':=by
   simp only[mA,Dn,hck,hn];rw[if_neg (fun e=>e.elim hlt h18)];cases dM n k (bo c.code[k]).1 (bo c.code[k]).2 (eZ c.code[k] k) hl td<;>rfl
  rw[eC,eR];have hst:=jI (ah (L18_1 (ai pg) ah)) hn hnb hk b1 b3 b4 hnl hnx (eZ c.code[k] k) [] hl td rfl H hd (by omega);rcases hst with⟨h',s1,s2⟩|⟨hl',td',s1,s2⟩
  ·exact .inl ⟨h',by rw[s1],s2⟩
  ·have hin:=mc hk b1 b3 b4 _ hl td H hd hnx (fun x h=>ht x (by simp[h])) s1;have ih:=pS hn hnb hf f hl' td' hin.1 (by omega) (by omega) hin.2.2;rw[s1];have s2':ah (L18_0 (ai pg) ah (ah (L18_1 (ai pg) ah))) [.ip (ab c.av),.hs 0 0 n 1 false,ints td,.int .i64 (k:Int),.int .i64 (bo c.code[k]).1,.int .i64 (bo c.code[k]).2,ints (eZ c.code[k] k),.int .i64 (eZ c.code[k] k).length,.int .i64 0] (Hr hl)=_:=s2;rw[s2'];exact ih
def wW(a b:Nat):((List.replicate a (-1:Int))++List.replicate (b+1) 0).set a (-1)=List.replicate (a+1) (-1)++List.replicate b 0:=by
 rw[List.set_append_right _ _ (by simp),E4,EQ,Fl,List.set_cons_zero,List.replicate_succ',Ei];rfl
theorem sf{c:Cod}{n:Nat}(hn:c.code.length=n)(hnb:n<=1000000)(hnm:∀i∈c.code,i.names.length<=1000000):∀(B A:List Ins),A++B=c.code->
  (B.all (aP n c.locals)=false/\∃h',ah (L18_2 (ai pg) ah) [.ip (ab c.av),.hs 0 0 n 1 false,f4 c.code,.int .i64 n,.int .i64 A.length] (Hr (List.replicate A.length (-1)++List.replicate B.length 0))= .ok (.tup [.sl [],.bool false]) h')\/
  (B.all (aP n c.locals)=true/\ah (L18_2 (ai pg) ah) [.ip (ab c.av),.hs 0 0 n 1 false,f4 c.code,.int .i64 n,.int .i64 A.length] (Hr (List.replicate A.length (-1)++List.replicate B.length 0))=ah (L18_2 (ai pg) ah) [.ip (ab c.av),.hs 0 0 n 1 false,f4 c.code,.int .i64 n,.int .i64 n] (Hr (List.replicate n (-1))))
 |[],A,e=>by
  rw[DX]at e;subst e;refine .inr ⟨rfl,?_⟩;rw[hn];simp
 | i:: B,A,e=>by
  have hlen:A.length+(B.length+1)=n:=by rw[<- hn,<- e];simp
  have h1:(A.length:Int)<(n:Int):=by omega
  have hix:=zd (l:=c.code) (n:=A.length) (by omega);rw[Dl c.code A.length (by omega),show c.code[A.length]'(by omega)=i by simp[<- e]]at hix;have hw:IntKind.i64.wrap ((A.length:Int)+1)=((A++[i]).length:Nat):=by rw[bv (by omega) (by omega)];simp
  have hF:=t48 c i (hnm i (by rw[<- e];simp));rw[hn]at hF;have hst:=yZ (hl:=List.replicate A.length (-1)++List.replicate (B.length+1) 0) (k:=A.length) (by simp) (-1);rw[wW]at hst;cases hf:aP n c.locals i with
  |false=>
   refine .inl ⟨by simp[hf],Hr (List.replicate A.length (-1)++List.replicate (i:: B).length 0),?_⟩;rw[FL18_2];simp -implicitDefEqProofs only[L18_2,ar,az,aB,aj,ak,CU,CW h1,hix,vR,y6,aw,wK,hF,hf,kw,Et,Dv];rfl
  | true=>
   have ih:=sf hn hnb hnm B (A++[i]) (by rw[<- e];simp);have eA:(A++[i]).length=A.length+1:=by simp
   rw[eA]at ih hw;have eC:ah (L18_2 (ai pg) ah) [.ip (ab c.av),.hs 0 0 n 1 false,f4 c.code,.int .i64 n,.int .i64 A.length] (Hr (List.replicate A.length (-1)++List.replicate (i:: B).length 0))=ah (L18_2 (ai pg) ah) [.ip (ab c.av),.hs 0 0 n 1 false,f4 c.code,.int .i64 n,.int .i64 ((A.length+1:Nat):Int)] (Hr (List.replicate (A.length+1) (-1)++List.replicate B.length 0)):=by
    rw[FL18_2,Dq];simp -implicitDefEqProofs only[L18_2,ar,az,aB,aj,ak,CU,CW h1,hix,vR,y6,aw,wK,hF,hf,kw,D3,C2,Dk,lC (n:=n) (k:=A.length) (by omega)];rw[bd hst];simp -implicitDefEqProofs only[bm,aj,hw]
   rw[eC];simp only[Ef,hf,En];exact ih
def uv(hl:List Int){n:Nat}(hn:hl.length=n):fR 6 (Hr hl) (.tup [.hs 0 0 n 1 false,.bool true])= .tup [ints hl,.bool true]:=by
 have hc:(hl.map (AV.int .i64)).all aQ=true:=by
  rw[C6];intro x hx;obtain⟨v,_,rfl⟩:=Eg.1 hx;rfl
 have h1:(decide (0+n*1<=(hl.map (AV.int .i64)).length)&&decide (0<1)&&(false||(Nat.beq 1 1&&(hl.map (AV.int .i64)).all aQ)))=true:=by
  rw[hc];simp[hn]
 unfold fR;simp only[cl,db,Hr,Db,h1,CV,CY];congr 2;unfold ints;congr 1;apply FE
 ·simp[hn]
 ·intro i h2 h3;have hi:i<hl.length:=by simpa using h3
  have hg:nth (hl.map (AV.int .i64)) (0+i*1)= .int .i64 hl[i]:=by
   rw[Ds,Eh];unfold nth;simp[hi]
  simp only[FF,Ft,hg];rfl
def B1:Option (List Int)->AV
 |none=>.tup [.sl [],.bool false]
 |some hl=>.tup [ints hl,.bool true]
def tt(n:Nat)(h:0<n):HInv n (0:: List.replicate (n-1) (-1)):=by
 have hneg:lQ (0:: List.replicate (n-1) (-1))=n-1:=by
  unfold lQ;rw[List.countP_cons_of_neg (by simp),List.countP_replicate];simp
 have hl:(0:: List.replicate (n-1) (-1:Int)).length=n:=by simp;omega
 have hv:∀j,j<n->(0:: List.replicate (n-1) (-1:Int))[j]! = 0\/(0:: List.replicate (n-1) (-1:Int))[j]! = -1:=by
  intro j hj;rw[Dl _ j (by rw[hl];exact hj)];cases j with
  |zero=>exact .inl rfl
  |succ j=>exact .inr (by simp)
 refine⟨hl,fun j hj=>?_,fun j hj=>?_⟩
 ·rcases hv j hj with e|e<;>omega
 ·rw[hneg];rcases hv j hj with e|e<;>omega
def t18(c:Cod)(hnb:c.code.length<=1000000)(hnm:∀i∈c.code,i.names.length<=1000000):ai pg 18 [c.av]=M.pure (B1 (cw c)):=by
 have hN:=t15 c.func;have key:∃h',∃v,S18 (ai pg) ah c.av []= .ok v h'/\fR 6 h' v=B1 (cw c):=by
  have hh:ln c= !((((!bD c.func||decide (c.params<0))||decide (6<c.params))||decide (c.locals<c.params))||decide ((c.code.length:Int)=0)):=by
   have e5:decide (c.code≠[])= !decide ((c.code.length:Int)=0):=by cases c.code<;>simp;omega
   have e2:decide (0<=c.params)= !decide (c.params<0):=by rw[<- Fg];exact DL.2 (by omega)
   have e3:decide (c.params<=6)= !decide (6<c.params):=by rw[<- Fg];exact DL.2 (by omega)
   have e4:decide (c.params<=c.locals)= !decide (c.locals<c.params):=by rw[<- Fg];exact DL.2 (by omega)
   unfold ln;rw[e2,e3,e4,e5];simp[Bool.not_or]
  cases hd:ln c with
  | false=>
   rw[hd]at hh;have hb:((((!bD c.func||decide (c.params<0))||decide (6<c.params))||decide (c.locals<c.params))||decide ((c.code.length:Int)=0))=true:=by
    cases hx:((((!bD c.func||decide (c.params<0))||decide (6<c.params))||decide (c.locals<c.params))||decide ((c.code.length:Int)=0))with
    |true=>rfl
    |false=>rw[hx]at hh;cases hh
   refine⟨[],.tup [.sl [],.bool false],?_,?_⟩
   ·simp -implicitDefEqProofs only[S18,fK0,zf,fK1,Bf,fK2,AA,fK3,m9,hJ,aj,hN,aw,kw,aB,cG,eu,aI,ar,c8,hb,ak,Dv];rfl
   ·unfold cw;rw[hd,if_neg (by simp)];rfl
  | true=>
   rw[hd]at hh;have hb:((((!bD c.func||decide (c.params<0))||decide (6<c.params))||decide (c.locals<c.params))||decide ((c.code.length:Int)=0))=false:=by
    cases hx:((((!bD c.func||decide (c.params<0))||decide (6<c.params))||decide (c.locals<c.params))||decide ((c.code.length:Int)=0))with
    |false=>rfl
    |true=>rw[hx]at hh;cases hh
   have hpos:0<c.code.length:=by
    have:=(D5.1 hb).2
    rw[Ee]at this;omega
   have hmk:iS T 60 (.int .i64 c.code.length) (.int .i64 c.code.length) []= .ok (.hs 0 0 c.code.length 1 false) (Hr (List.replicate c.code.length 0)):=by
    have e:dm T 60 (.int .i64 c.code.length) (.int .i64 c.code.length)=some (.sl (List.replicate c.code.length (.int .i64 0))):=by
     show (if _/\_/\_/\_/\_ then _ else none)=_;rw[CW ⟨by omega,by omega,by omega,by show (8:Int)*_<=_;omega,rfl⟩];rfl
    have hz:bQ 1 (List.replicate c.code.length (AV.int .i64 0))=true:=by
     have:=nn (List.replicate c.code.length (0:Int))
     rw[List.map_replicate]at this;exact this
    unfold iS;rw[e];show (bif bQ 1 (List.replicate c.code.length (AV.int .i64 0))&&decide (0<1)&&decide (0<(List.replicate c.code.length (AV.int .i64 0)).length)then R.ok (AV.hs 0 0 (List.replicate c.code.length (AV.int .i64 0)).length 1 false) ([]++[(List.replicate c.code.length (AV.int .i64 0)).flatMap ab])else .fail)=_;rw[hz,E4,Dm hpos];have hfm:(List.replicate c.code.length (AV.int .i64 0)).flatMap ab=(List.replicate c.code.length (0:Int)).map (AV.int .i64):=by
     generalize c.code.length=n
     induction n with
     |zero=>rfl
     |succ n ih=>rw[Fl,Fl,Ej,DC,ih];rfl
    rw[hfm];rfl
   have hS:S18 (ai pg) ah c.av []=ah (L18_2 (ai pg) ah) [.ip (ab c.av),.hs 0 0 c.code.length 1 false,f4 c.code,.int .i64 c.code.length,.int .i64 0] (Hr (List.replicate c.code.length 0)):=by
    simp -implicitDefEqProofs only[S18,fK0,zf,fK1,Bf,fK2,AA,fK3,m9,hJ,aj,hN,aw,kw,aB,cG,eu,aI,ar,c8,hb,ak,C2,Dk];rw[bd hmk]
   rw[hS];rcases sf (c:=c) rfl hnb hnm c.code [] rfl with⟨a1,h',a2⟩|⟨a1,a2⟩
   ·refine⟨h',.tup [.sl [],.bool false],a2,?_⟩;unfold cw;rw[if_neg (fun e=>by rw[a1]at e;cases e.2)];rfl
   ·have a2':ah (L18_2 (ai pg) ah) [.ip (ab c.av),.hs 0 0 c.code.length 1 false,f4 c.code,.int .i64 c.code.length,.int .i64 0] (Hr (List.replicate c.code.length 0))=_:=a2;have h1:¬((c.code.length:Int)<(c.code.length:Int)):=by omega
    have hs0:am T 60 (.hs 0 0 c.code.length 1 false) (.int .i64 0)=some (.hp 0 (0+0*1)):=lC (k:=0) hpos;have hst:=yZ (hl:=List.replicate c.code.length (-1)) (k:=0) (by simpa using hpos) 0;have hset:(List.replicate c.code.length (-1:Int)).set 0 0=0:: List.replicate (c.code.length-1) (-1):=by
     obtain⟨m,hm⟩:∃m,c.code.length=m+1:=⟨c.code.length-1,by omega⟩;rw[hm];rfl
    rw[hset]at hst;have hI:=tt c.code.length hpos;have hng:lQ (0:: List.replicate (c.code.length-1) (-1))<=c.code.length:=by have:=hI.hi 0 hpos;rw[Dl _ 0 (by simp)]at this;simp at this;omega
    have hall:c.code.all (aP c.code.length c.locals)=true:=a1;have hH:cw c=mA c.code (2*c.code.length+2) (0:: List.replicate (c.code.length-1) (-1)) [0]:=by
     unfold cw;rw[CW ⟨hd,hall⟩]
    have eL:ah (L18_2 (ai pg) ah) [.ip (ab c.av),.hs 0 0 c.code.length 1 false,f4 c.code,.int .i64 c.code.length,.int .i64 c.code.length] (Hr (List.replicate c.code.length (-1)))=ah (L18_1 (ai pg) ah) [.ip (ab c.av),.hs 0 0 c.code.length 1 false,ints [0]] (Hr (0:: List.replicate (c.code.length-1) (-1))):=by
     rw[FL18_2];simp -implicitDefEqProofs only[L18_2,ar,az,aB,aj,ak,CU,if_neg h1,hs0];rw[bd hst];simp -implicitDefEqProofs only[Cg,aj]
    rw[a2',eL,hH];rcases pS (c:=c) rfl hnb (fun i hi=>C6.1 hall i hi) (2*c.code.length+2) _ [0] hI (by simp only[Ea];have:=hI.hi 0 hpos;rw[Dl _ 0 (by simp)]at this;simp at this;omega) (by omega) (fun v hv=>by rw[Dp]at hv;subst hv;omega)with⟨h',b1,b2⟩|⟨hl',b1,b2,b3⟩
    ·exact⟨h',_,b2,by rw[b1];rfl⟩
    ·exact⟨_,_,b3,by rw[b1];exact uv hl' b2⟩
 obtain⟨h',v,k1,k2⟩:=key;rw[C18,gA];funext h;unfold aZ;rw[k1];simp only[k2];rfl
def t8(c:Cod)(hnb:c.code.length<=1000000)(hnm:∀i∈c.code,i.names.length<=1000000):ai pg 8 [c.av]=M.pure (.bool (cw c).isSome):=by
 have h:=t18 c hnb hnm;have hx:∃a,B1 (cw c)= .tup [a,.bool (cw c).isSome]:=by
  cases cw c<;>exact⟨_,rfl⟩
 obtain⟨a,ha⟩:=hx;rw[ha]at h;rw[C8,gA];simp -implicitDefEqProofs only[S8,wK,aj,h,aw,bX,Db,DO];exact cy _
theorem mU(v19:List AV->M AV)(x0 x1:AV){j:Nat}(hj:j<=1000000)(i:Ins)(hb:i.names.length<=1000000):∀(B A:List aS),A++B=i.names->
  ah (L7_0 (ai pg) ah v19) [x0,x1,.int .i64 (j:Int),.ip (ab i.av),.int .i64 A.length]=M.pure (.bool false)\/
  ah (L7_0 (ai pg) ah v19) [x0,x1,.int .i64 (j:Int),.ip (ab i.av),.int .i64 A.length]=v19 [x0,x1,.int .i64 ((j+1:Nat):Int)]
 |[],A,e=>by
  rw[DX]at e;have h1:¬((A.length:Int)<(i.names.length:Int)):=by rw[<- e];omega
  have hw:IntKind.i64.wrap ((j:Int)+1)=((j+1:Nat):Int):=by rw[bv (by omega) (by omega)];omega
  refine .inr ?_;rw[FL7_0];simp -implicitDefEqProofs only[L7_0,ar,az,fJ4,wJ,cE,aB,aj,ak,CU,if_neg h1,bm,hw]
 | s:: B,A,e=>by
  have hlen:A.length+(B.length+1)=i.names.length:=by rw[<- e];simp
  have h1:(A.length:Int)<(i.names.length:Int):=by omega
  have hix:=jk (l:=i.names) (n:=(A.length:Int)) (by omega) h1;have hxx:i.names[A.length]! = s:=by rw[Dl i.names A.length (by omega)];simp[<- e]
  rw[Dn,hxx]at hix;have hw:IntKind.i64.wrap ((A.length:Int)+1)=((A++[s]).length:Nat):=by rw[bv (by omega) (by omega)];simp
  by_cases h40:(40:Int)<s.length
  ·refine .inl ?_;rw[FL7_0];simp -implicitDefEqProofs only[L7_0,ar,az,fJ4,wJ,cE,aB,cG,aj,ak,CU,CW h1,hix,q6,jG,CW h40]
  ·have ih:=mU v19 x0 x1 hj i hb B (A++[s]) (by rw[<- e];simp);have eC:ah (L7_0 (ai pg) ah v19) [x0,x1,.int .i64 (j:Int),.ip (ab i.av),.int .i64 A.length]=ah (L7_0 (ai pg) ah v19) [x0,x1,.int .i64 (j:Int),.ip (ab i.av),.int .i64 (A++[s]).length]:=by
    rw[FL7_0];simp -implicitDefEqProofs only[L7_0,ar,az,fJ4,wJ,cE,aB,cG,aj,ak,CU,CW h1,hix,q6,jG,if_neg h40,bm,hw]
   rw[eC];exact ih
theorem pi(v0:List AV->M AV){l:List Cod}{k:Nat}(hk:k<l.length)(hl:k<=1000000){c:Cod}(hc:l[k]=c)(hcl:c.code.length<=1000000):∀(B A:List Ins),A++B=c.code->
  ah (L7_1 (ai pg) ah v0) [bi l,.int .i64 (k:Int),.int .i64 A.length]=M.pure (.bool false)\/
  (ah (L7_1 (ai pg) ah v0) [bi l,.int .i64 (k:Int),.int .i64 A.length]=v0 [bi l,.int .i64 ((k+1:Nat):Int)]/\∀i∈B,i.names.length<=12)
 |[],A,e=>by
  rw[DX]at e;have h1:¬((A.length:Int)<(c.code.length:Int)):=by rw[<- e];omega
  have hik:=wI hk;rw[Dl l k hk,hc]at hik;have hw:IntKind.i64.wrap ((k:Int)+1)=((k+1:Nat):Int):=by rw[bv (by omega) (by omega)];omega
  refine .inr ⟨?_,fun i hi=>by cases hi⟩;rw[FL7_1];simp -implicitDefEqProofs only[L7_1,ar,az,hik,fK3,m9,hJ,aB,aj,ak,CU,if_neg h1,bm,hw]
 | i:: B,A,e=>by
  have hlen:A.length+(B.length+1)=c.code.length:=by rw[<- e];simp
  have h1:(A.length:Int)<(c.code.length:Int):=by omega
  have hik:=wI hk;rw[Dl l k hk,hc]at hik;have hix:=zd (l:=c.code) (n:=A.length) (by omega);rw[Dl c.code A.length (by omega),show c.code[A.length]'(by omega)=i by simp[<- e]]at hix;by_cases hbad:((decide ((12:Int)<i.names.length)||decide ((40:Int)<i.s.length))||decide ((40:Int)<i.m.length))=true
  ·refine .inl ?_;rw[FL7_1];simp -implicitDefEqProofs only[L7_1,ar,az,hik,fK3,m9,hJ,aB,cG,aj,ak,CU,CW h1,hix,vR,y6,aw,fJ2,ze,fJ3,Az,fJ4,wJ,cE,jG,aI,c8,hbad,Dv]
  ·rw[FG]at hbad;have h12:i.names.length<=12:=by
    have:=(D5.1 (D5.1 hbad).1).1
    rw[Ee]at this;omega
   have hn12:i.names.length<=1000000:=by omega
   have eC:ah (L7_1 (ai pg) ah v0) [bi l,.int .i64 (k:Int),.int .i64 A.length]=ah (L7_0 (ai pg) ah (ah (L7_1 (ai pg) ah v0))) [bi l,.int .i64 (k:Int),.int .i64 A.length,.ip (ab i.av),.int .i64 0]:=by
    rw[FL7_1];simp -implicitDefEqProofs only[L7_1,ar,az,hik,fK3,m9,hJ,aB,cG,aj,ak,CU,CW h1,hix,vR,y6,aw,fJ2,ze,fJ3,Az,fJ4,wJ,cE,jG,aI,c8,hbad,C2,Dk]
   have ih:=pi v0 hk hl hc hcl B (A++[i]) (by rw[<- e];simp);have eA:(A++[i]).length=A.length+1:=by simp
   rw[eA]at ih;rw[eC];have hn:=mU (ah (L7_1 (ai pg) ah v0)) (bi l) (.int .i64 (k:Int)) (j:=A.length) (by omega) i hn12 i.names [] rfl;have hn':ah (L7_0 (ai pg) ah (ah (L7_1 (ai pg) ah v0))) [bi l,.int .i64 (k:Int),.int .i64 A.length,.ip (ab i.av),.int .i64 0]=M.pure (.bool false)\/ah (L7_0 (ai pg) ah (ah (L7_1 (ai pg) ah v0))) [bi l,.int .i64 (k:Int),.int .i64 A.length,.ip (ab i.av),.int .i64 0]=ah (L7_1 (ai pg) ah v0) [bi l,.int .i64 (k:Int),.int .i64 ((A.length+1:Nat):Int)]:=hn;rcases hn' with h|h
   ·exact .inl h
   ·rw[h];refine ih.imp id fun h=>⟨h.1,fun j hj=>?_⟩;rcases De.1 hj with rfl|hj
    ·exact h12
    ·exact h.2 j hj
theorem rW{l:List Cod}(hl:l.length<=140737488355328):∀(B A:List Cod),A++B=l->(∀c∈A,c.code.length<=80/\∀i∈c.code,i.names.length<=12)->
  ∃b,ah (L7_2 (ai pg) ah) [bi l,.int .i64 A.length]=M.pure (.bool b)/\(b=true->l.length<=6/\∀c∈l,c.code.length<=80/\∀i∈c.code,i.names.length<=12)
 |[],A,e,ha=>by
  rw[DX]at e;subst e;have h1:¬((A.length:Int)<(A.length:Int)):=by omega
  refine⟨decide ((A.length:Int)<=6),?_,fun hb=>⟨by rw[CU]at hb;omega,ha⟩⟩;rw[FL7_2];simp -implicitDefEqProofs only[L7_2,ar,az,jF,aB,aj,aI,aw,bV,ak,DF h1,EU,C2,Dk,q7]
 | c :: B,A,e,ha=>by
  have hlen:A.length+(B.length+1)=l.length:=by rw[<- e];simp
  have h1:(A.length:Int)<(l.length:Int):=by omega
  by_cases h7:(A.length:Int)<7
  ·have hk:A.length<l.length:=by omega
   have hcA:l[A.length]=c:=by simp[<- e]
   have hik:=wI hk;rw[Dl l A.length hk,hcA]at hik;by_cases hbad:(decide ((80:Int)<c.code.length)||decide ((40:Int)<c.func.length))=true
   ·refine⟨false,?_,fun hb=>by cases hb⟩;rw[FL7_2];simp -implicitDefEqProofs only[L7_2,ar,az,jF,aB,cG,aj,aI,aw,bV,c8,ak,Dm h1,Dm h7,Ex,Dv,hik,fK3,m9,hJ,fK0,zf,jG,hbad]
   ·rw[FG]at hbad;have h80:c.code.length<=80:=by
     have:=(D5.1 hbad).1
     rw[Ee]at this;omega
    have eC:ah (L7_2 (ai pg) ah) [bi l,.int .i64 A.length]=ah (L7_1 (ai pg) ah (ah (L7_2 (ai pg) ah))) [bi l,.int .i64 A.length,.int .i64 0]:=by
     rw[FL7_2];simp -implicitDefEqProofs only[L7_2,ar,az,jF,aB,cG,aj,aI,aw,bV,c8,ak,Dm h1,Dm h7,Ex,Dv,hik,fK3,m9,hJ,fK0,zf,jG,hbad,C2,Dk]
    have hc:=pi (ah (L7_2 (ai pg) ah)) hk (by omega) hcA (by omega) c.code [] rfl;have hc':ah (L7_1 (ai pg) ah (ah (L7_2 (ai pg) ah))) [bi l,.int .i64 A.length,.int .i64 0]=M.pure (.bool false)\/ah (L7_1 (ai pg) ah (ah (L7_2 (ai pg) ah))) [bi l,.int .i64 A.length,.int .i64 0]=ah (L7_2 (ai pg) ah) [bi l,.int .i64 ((A.length+1:Nat):Int)]/\∀i∈c.code,i.names.length<=12:=hc;rw[eC];rcases hc' with h|⟨h,hnm⟩
    ·exact⟨false,h,fun hb=>by cases hb⟩
    ·have ih:=rW hl B (A++[c]) (by rw[<- e];simp) (fun x hx=>by
      rcases Di.1 hx with hx|hx
      ·exact ha x hx
      ·rw[Dp.1 hx];exact⟨h80,hnm⟩)
     have eA:(A++[c]).length=A.length+1:=by simp
     rw[eA]at ih;rw[h];exact ih
  ·refine⟨decide ((l.length:Int)<=6),?_,fun hb=>by rw[CU]at hb;omega⟩;rw[FL7_2];simp -implicitDefEqProofs only[L7_2,ar,az,jF,aB,aj,aI,aw,bV,ak,DF h7,Fo,C2,Dk,q7]
def Cq(l:List Cod)(hl:l.length<=140737488355328):∃b,ai pg 7 [bi l]=M.pure (.bool b)/\(b=true->l.length<=6/\∀c∈l,c.code.length<=80/\∀i∈c.code,i.names.length<=12):=by
 obtain⟨b,h1,h2⟩:=rW hl l [] rfl (fun c hc=>by cases hc);refine⟨b,?_,h2⟩;have hcl:cl aC (bi l)=bi l:=by simp[bi,cl,bT aC Cod.av (gA aC)]
 have h1':ah (L7_2 (ai pg) ah) [bi l,.int .i64 0]=M.pure (.bool b):=h1;rw[C7,hcl];simp -implicitDefEqProofs only[S7,h1'];exact cy b
def oG(p:Cod×Nat):AV:=if p.1.code=[]then .hn else .hs p.2 0 p.1.code.length 5 true
def gt(p:Cod×Nat):AV:=.agg [.str p.1.func,.int .i64 p.1.params,.int .i64 p.1.locals,oG p]
theorem i8(p:Cod×Nat):(ab (gt p)).length=4:=rfl
def vG(p:Cod×Nat):aQ (oG p)=true:=by unfold oG;split<;>rfl
theorem vu(p:Cod×Nat):bI 4 (gt p)=true:=by
 have h:=vG p;have e:bI 4 (gt p)=((aQ (.str p.1.func))&&((aQ (.int .i64 p.1.params))&&((aQ (.int .i64 p.1.locals))&&(aQ (oG p)&&true)))):=rfl;rw[e,h];rfl
def wY(ps:List (Cod×Nat)):(rowOf gt ps).all aQ=true:=by
 rw[C6];intro y hy;simp only[rowOf,Eu,Eg]at hy;obtain⟨_,⟨p,_,rfl⟩,hy⟩:=hy;have:y∈[AV.str p.1.func,.int .i64 p.1.params,.int .i64 p.1.locals,oG p]:=hy;simp only[De,D2,Ev]at this;rcases this with rfl|rfl|rfl|rfl
 ·rfl
 ·rfl
 ·rfl
 ·exact vG p
def wX(l:List Ins):(rowOf Ins.av l).all aQ=true:=by
 rw[C6];intro y hy;simp only[rowOf,Eu,Eg]at hy;obtain⟨_,⟨j,_,rfl⟩,hy⟩:=hy;have:y∈j.cells:=hy;simp only[Ins.cells,De,D2,Ev]at this;rcases this with rfl|rfl|rfl|rfl|rfl<;>rfl
def RI(h:Hp)(out:AV)(ps:List (Cod×Nat)):Prop:=(ps=[]/\out= .hn)\/(ps≠[]/\∃l,out= .hs l 0 ps.length 4 true/\h[l]? = some (rowOf gt ps)/\(∀p∈ps,p.1.code≠[]->p.2≠l/\h[p.2]? = some (rowOf Ins.av p.1.code))/\
 ∀p,ps.getLast? = some p->p.1.code≠[]->∀q∈ps.dropLast,q.1.code≠[]->q.2≠p.2)
def RI.len{h:Hp}{out:AV}{ps:List (Cod×Nat)}(H:RI h out ps):aM T 22 out=some (.int .i64 ps.length):=by
 rcases H with⟨rfl,rfl⟩|⟨_,l,rfl,_⟩<;>rfl
def gQ(ps:List (Cod×Nat))(p:Cod×Nat):rowOf gt (ps++[p])=rowOf gt ps++ab (gt p):=by simp[rowOf]
def RI.push{h:Hp}{out:AV}{ps:List (Cod×Nat)}(H:RI h out ps)(c:Cod)(hc:c.code=[])(hb:ps.length<=1000000):∃out' h',appH T 22 false out (.sl [gt (c,0)]) h= .ok out' h'/\RI h' out' (ps++[(c,0)]):=by
 have hlast:∀p,(ps++[(c,0)]).getLast? = some p->p.1.code≠[]->∀q∈(ps++[(c,0)]).dropLast,q.1.code≠[]->q.2≠p.2:=by
  intro p hp hne;rw[Fh,CS]at hp;subst hp;exact absurd hc hne
 rcases H with⟨rfl,rfl⟩|⟨hne,l,rfl,hl,hI,_⟩
 ·refine⟨_,_,xG (T:=T) (t:=22) (e:=28) rfl rfl rfl (x:=gt (c,0)) (vu _) (by decide) (by decide) (by decide) h,.inr ⟨by simp,h.length,rfl,?_,?_,hlast⟩⟩
  ·rw[Dd (C0 _)];simp[rowOf]
  ·intro p hp hpc;simp only[DZ,Dp]at hp;subst hp;exact absurd hc hpc
 ·have hln:=eM (f:=gt) (sz:=4) i8 ps;have hlt:=cQ hl;refine⟨_,_,xH (T:=T) (t:=22) (e:=28) rfl rfl rfl (x:=gt (c,0)) (vu _) (by decide) (by decide) hl (wY ps) hln (D7.2 hne) (by show (ps.length+1)*56<=_;omega),.inr ⟨by simp,h.length,by simp,?_,?_,hlast⟩⟩
  ·rw[Dd (by simp),gQ];simp
  ·intro p hp hpc;rcases Di.1 hp with hp|hp
   ·obtain⟨n1,n2⟩:=hI p hp hpc;have hpl:=cQ n2;refine⟨by omega,?_⟩;rw[C5 (by simpa using hpl),Dj,if_neg (by omega)];exact n2
   ·rw[Dp]at hp;subst hp;exact absurd hc hpc
theorem Cs{l n k:Nat}(h:k<n):am T 22 (.hs l 0 n 4 true) (.int .i64 (k:Int))=some (.hp l (0+k*4)):=by
 have e:am T 22 (.hs l 0 n 4 true) (.int .i64 (k:Int))=if 0<=(k:Int)/\(k:Int)<(n:Int)then some (.hp l (0+(k:Int).toNat*4))else none:=rfl;rw[e,CW (by omega),Dn]
theorem Cr(l k:Nat):aa T 28 (.hp l k) 3=some (.hp l (k+3)):=rfl
def RI.addI{h:Hp}{out:AV}{ps:List (Cod×Nat)}{p:Cod×Nat}(H:RI h out (ps++[p]))(i:Ins)(hb:p.1.code.length<=1000000):
  ∃l h1 h2,out= .hs l 0 (ps.length+1) 4 true/\di T 26 (.hp l (0+ps.length*4+3)) h= .ok (oG p) h/\appH T 26 false (oG p) (.sl [i.av]) h= .ok (.hs h.length 0 (p.1.code.length+1) 5 true) h1/\
   dG T 26 (.hp l (0+ps.length*4+3)) (.hs h.length 0 (p.1.code.length+1) 5 true) h1= .ok (.tup []) h2/\RI h2 out (ps++[({ p.1 with code:=p.1.code++[i] },h.length)]):=by
 rcases H with⟨e,_⟩|⟨_,l,rfl,hl,hI,hL⟩
 ·simp at e
 ·have hlt:=cQ hl;have hln:=eM (f:=gt) (sz:=4) i8 ps;have hlen:(ps++[p]).length=ps.length+1:=by simp
  have hL':=hL p (Fh ..);have ed:(ps++[p]).dropLast=ps:=List.dropLast_concat;rw[ed]at hL';have hcell:(rowOf gt (ps++[p]))[0+ps.length*4+3]? = some (oG p):=by
   rw[gQ,Dd (by omega),show 0+ps.length*4+3-(rowOf gt ps).length=3 by omega];rfl
  have ld:di T 26 (.hp l (0+ps.length*4+3)) h= .ok (oG p) h:=rc (T:=T) (t:=26) rfl rfl hl hcell;have hr:rowOf Ins.av (p.1.code++[i])=rowOf Ins.av p.1.code++ab i.av:=by simp[rowOf]
  have hap:∃h1,appH T 26 false (oG p) (.sl [i.av]) h= .ok (.hs h.length 0 (p.1.code.length+1) 5 true) h1/\h1[h.length]? = some (rowOf Ins.av (p.1.code++[i]))/\h1[l]? = h[l]? /\h1.length=h.length+1/\∀q∈ps,q.1.code≠[]->h1[q.2]? = h[q.2]?:=by
   by_cases hc:p.1.code=[]
   ·have e1:oG p= .hn:=CW hc;refine⟨h++[ab i.av],?_,?_,?_,by simp,?_⟩
    ·rw[e1,hc];exact xG (T:=T) (t:=26) (e:=67) rfl rfl rfl (x:=i.av) rfl (by decide) (by decide) (by decide) h
    ·rw[hr,hc,Dd (by omega)];simp[rowOf]
    ·rw[C5 hlt]
    ·intro q hq hqc
     have:=cQ (hI q (by simp[hq]) hqc).2
     rw[C5 this]
   ·have e1:oG p= .hs p.2 0 p.1.code.length 5 true:=if_neg hc;obtain⟨n1,n2⟩:=hI p (by simp) hc;have hlni:=eM (f:=Ins.av) Aj p.1.code;refine⟨(h.set p.2 [])++[rowOf Ins.av p.1.code++ab i.av],?_,?_,?_,by simp,?_⟩
    ·rw[e1];exact xH (T:=T) (t:=26) (e:=67) rfl rfl rfl (x:=i.av) rfl (by decide) (by decide) n2 (wX _) hlni (D7.2 hc) (by show (p.1.code.length+1)*72<=_;omega)
    ·rw[hr,Dd (by simp)];simp
    ·rw[C5 (by simpa using hlt),Dj,if_neg (by omega)]
    ·intro q hq hqc;have hq2:=cQ (hI q (by simp[hq]) hqc).2;rw[C5 (by simpa using hq2),Dj,if_neg (fun e=>hL' hc q hq hqc e.symm)]
  obtain⟨h1,a1,a2,a3,a4,a5⟩:=hap;have hrl:(rowOf gt (ps++[p])).length=ps.length*4+4:=by
   rw[gQ,Dh,hln,i8]
  have st:=oE (T:=T) (t:=26) rfl (h:=h1) (l:=l) (k:=0+ps.length*4+3) (v:=.hs h.length 0 (p.1.code.length+1) 5 true) (by rw[a3];exact hl) rfl (show 0+ps.length*4+3+1<=(rowOf gt (ps++[p])).length by omega) (by decide);have hrow:setCells (rowOf gt (ps++[p])) (0+ps.length*4+3) (ab (.hs h.length 0 (p.1.code.length+1) 5 true))=rowOf gt (ps++[({ p.1 with code:=p.1.code++[i] },h.length)]):=by
   rw[gQ,gQ];have e2:oG ({ p.1 with code:=p.1.code++[i] },h.length)= .hs h.length 0 (p.1.code.length+1) 5 true:=by
    unfold oG;rw[if_neg (by simp)];simp
   have e3:ab (gt ({ p.1 with code:=p.1.code++[i] },h.length))=[.str p.1.func,.int .i64 p.1.params,.int .i64 p.1.locals,.hs h.length 0 (p.1.code.length+1) 5 true]:=by
    show[AV.str p.1.func,.int .i64 p.1.params,.int .i64 p.1.locals,oG ({ p.1 with code:=p.1.code++[i] },h.length)]=_;rw[e2]
   rw[e3];show ((rowOf gt ps++[AV.str p.1.func,.int .i64 p.1.params,.int .i64 p.1.locals,oG p]).take (0+ps.length*4+3)++[AV.hs h.length 0 (p.1.code.length+1) 5 true])++(rowOf gt ps++[AV.str p.1.func,.int .i64 p.1.params,.int .i64 p.1.locals,oG p]).drop (0+ps.length*4+3+1)=_;rw[show 0+ps.length*4+3=(rowOf gt ps).length+3 by omega,List.take_length_add_append,show (rowOf gt ps).length+3+1=(rowOf gt ps).length+4 by omega,List.drop_length_add_append];simp
  rw[hrow]at st;refine⟨l,h1,_,by rw[hlen],ld,a1,st,.inr ⟨by simp,l,by simp,?_,?_,?_⟩⟩
  ·rw[Dj,CW rfl,CW (by omega)]
  ·intro q hq hqc;rcases Di.1 hq with hq|hq
   ·obtain⟨n1,n2⟩:=hI q (by simp[hq]) hqc;refine⟨n1,?_⟩;rw[Dj,if_neg (FN n1),a5 q hq hqc];exact n2
   ·rw[Dp]at hq;subst hq;refine⟨by show h.length≠l;omega,?_⟩;rw[Dj,if_neg (by omega)];exact a2
  ·intro q hq _ r hr2 hrc;rw[Fh,CS]at hq;subst hq;rw[List.dropLast_concat]at hr2
   have:=cQ (hI r (by simp[hr2]) hrc).2
   show r.2≠h.length;omega
def yE{h:Hp}{out:AV}{ps:List (Cod×Nat)}(H:RI h out ps):fR 6 h out=bi (ps.map (·.1)):=by
 rcases H with⟨rfl,rfl⟩|⟨hne,l,rfl,hl,hI,_⟩
 ·rfl
 ·have hlen:=eM (f:=gt) (sz:=4) i8 ps;have key:∀p∈ps,fR 5 h (gt p)=p.1.av:=by
   intro p hp;by_cases hc:p.1.code=[]
   ·have e1:oG p= .hn:=CW hc;unfold fR;simp only[gt,e1,cl,db];unfold Cod.av;rw[hc];rfl
   ·have e1:oG p= .hs p.2 0 p.1.code.length 5 true:=if_neg hc;have hi:=s8 (f:=Ins.av) Aj (fun _=>rfl) (fun x g=>by simp[Ins.av,Ins.cells,cl,db]) (by decide) (hI p hp hc).2 4;unfold fR at hi |-;simp only[cl]at hi;simp only[gt,e1,cl,db,hi];rfl
  have hg:fR 6 h (.hs l 0 ps.length 4 true)= .sl ((List.range ps.length).map fun i=>fR 5 h (.agg (((rowOf gt ps).drop (0+i*4)).take 4))):=by
   have h1:(decide (0+ps.length*4<=(rowOf gt ps).length)&&decide (0<4)&&(true||(Nat.beq 4 1&&(rowOf gt ps).all aQ)))=true:=by
    simp[hlen]
   conv=>lhs;unfold fR
   simp only[cl,hl,h1,CV]
  rw[hg];unfold bi;congr 1;apply FE
  ·simp
  ·intro i h2 h3;have hi:i<ps.length:=by simpa using h2
   simp only[FF,Ft,Ds];rw[gP (f:=gt) i8 ps i hi];exact key ps[i] (DT hi)
def B4{l:List aS}(h:3<l.length):am T 35 (strs l) (.int .i64 3)=some (.ip (ab (.str (l.getD 3 [])))):=by
 have:=jk (l:=l) (n:=3) (by omega) (by omega)
 rw[this];rcases l with _|⟨a,_|⟨b,_|⟨c,_|⟨d,l⟩⟩⟩⟩
 ·simp at h
 ·simp at h
 ·simp at h
 ·simp at h
 ·rfl
theorem Cb(a b:aS):ao T .neq 9 (.str a) (.str b)=some (.bool (!(a== b))):=rfl
def Bg(a b:aS):ao T .eql 9 (.str a) (.str b)=some (.bool (decide (a=b))):=by
 rw[ry,Bool.beq_eq_decide_eq]
theorem oi(s:aS)(lines:List aS)(hln:lines.length<=10000)(hN:∀t∈lines,t.length<=900000):∀(B A:List aS)(h:Hp)(out:AV)(ps:List (Cod×Nat)),A++B=lines->RI h out ps->ps.length<=A.length->(∀p∈ps,p.1.code.length<=A.length)->
  ∃h',ah (L10_0 (ai pg) ah (K10_0 (ai pg) ah)) [.str s,out,strs lines,.int .i64 lines.length,.int .i64 A.length] h=(match bz B (ps.map (·.1))with
   |none=>.ok (.tup [.sl [],.int .i64 2]) h'
   |some l=>K10_0 (ai pg) ah [.str s,bi l] h')
 |[],A,h,out,ps,e,H,_,_=>by
  rw[DX]at e;subst e;have h1:¬((A.length:Int)<(A.length:Int)):=by omega
  refine⟨h.map fun _=>[],?_⟩;rw[FL10_0];simp -implicitDefEqProofs only[L10_0,ar,az,aB,aj,ak,CU,if_neg h1,bz];show K10_0 (ai pg) ah [fR 6 h (.str s),fR 6 h out] _=_;rw[yE H];rfl
 | x :: B,A,h,out,ps,e,H,hp1,hp2=>by
  have hlen:A.length+(B.length+1)=lines.length:=by rw[<- e];simp
  have h1:(A.length:Int)<(lines.length:Int):=by omega
  have hix:=jk (l:=lines) (n:=(A.length:Int)) (by omega) h1;have hxx:lines[A.length]! = x:=by rw[Dl lines A.length (by omega)];simp[<- e]
  rw[Dn,hxx]at hix;have hxl:=hN x (by rw[<- e];simp);have hw:IntKind.i64.wrap ((A.length:Int)+1)=((A++[x]).length:Nat):=by rw[bv (by omega) (by omega)];simp
  have ht:=t27 x (by omega);have htl:=nD x;have hs:=t26 (dN x) (by omega);have hbw:=fc 32 0 _ (dN x) (C0 _);have hw0:0<(cu 32 0 (dN x)).length:=D7.2 hbw.1;have eS:ah (L10_0 (ai pg) ah (K10_0 (ai pg) ah)) [.str s,out,strs lines,.int .i64 lines.length,.int .i64 A.length]=L10_0 (ai pg) ah (K10_0 (ai pg) ah) (ah (L10_0 (ai pg) ah (K10_0 (ai pg) ah))) [.str s,out,strs lines,.int .i64 lines.length,.int .i64 A.length]:=by rw[FL10_0]
  rw[eS];by_cases hx:x=[]
  ·obtain⟨h',eh⟩:=oi s lines hln hN B (A++[x]) h out ps (by rw[<- e];simp) H (by simp;omega) (fun p hp=>by have:=hp2 p hp;simp;omega);refine⟨h',?_⟩;rw[bz,CW hx,<- eh];simp -implicitDefEqProofs only[L10_0,ar,az,aB,aj,ak,CU,CW h1,hix,q6,ht,aw,hs,H.len,Bg,CW hx,bm,hw]
  ·generalize hgw:cu 32 0 (dN x)=w at *;have i0:=uG (l:=w) hw0;have hwb:∀y∈w,y.length<=900000:=fun y hy=>by have:=hbw.2.2 y hy;omega
   have hgd:∀k,(w.getD k []).length<=900000:=fun k=>by
    rw[Du];cases hk:w[k]? with
    |none=>simp
    |some y=>exact hwb y (D4 hk)
   have l4:decide ((w.length:Int)=4)=decide (w.length=4):=DL.2 (by omega);rw[bz,if_neg hx];simp only[hgw,lm];by_cases hf:w.getD 0 []=[102,117,110,99]/\w.length=4
   ·rw[CW hf];have hb:fT T true 28 [(0,.str (w.getD 1 [])),(1,.int .i64 (dx (w.getD 2 []))),(2,.int .i64 (dx (w.getD 3 [])))]=some (gt (⟨w.getD 1 [],dx (w.getD 2 []),dx (w.getD 3 []),[]⟩,0)):=rfl;have hbs:bb T 22 1 [(0,gt (⟨w.getD 1 [],dx (w.getD 2 []),dx (w.getD 3 []),[]⟩,0))]=some (.sl [gt (⟨w.getD 1 [],dx (w.getD 2 []),dx (w.getD 3 []),[]⟩,0)]):=rfl;obtain⟨out',h2,e2,H2⟩:=H.push ⟨w.getD 1 [],dx (w.getD 2 []),dx (w.getD 3 []),[]⟩ rfl (by omega);obtain⟨h',eh⟩:=oi s lines hln hN B (A++[x]) h2 out' _ (by rw[<- e];simp) H2 (by simp;omega) (fun p hp=>by
     rcases Di.1 hp with hp|hp
     ·have:=hp2 p hp;simp;omega
     ·rw[Dp]at hp;subst hp;exact Ec _)
    refine⟨h',?_⟩;have em:(ps++[((⟨w.getD 1 [],dx (w.getD 2 []),dx (w.getD 3 []),[]⟩,0):Cod×Nat)]).map (·.1)=ps.map (·.1)++[⟨w.getD 1 [],dx (w.getD 2 []),dx (w.getD 3 []),[]⟩]:=by rw[List.map_append];rfl
    rw[em]at eh;rw[<- eh];have u2:=t28 (w.getD 2 []) (by have:=hgd 2;omega);have u3:=t28 (w.getD 3 []) (by have:=hgd 3;omega);have hf':(decide (w.getD 0 []=[102,117,110,99])&&decide (w.length=4))=true:=by rw[Dm hf.1,Dm hf.2];rfl
    simp -implicitDefEqProofs only[L10_0,ar,az,aB,aj,ak,CU,CW h1,hix,q6,ht,aw,hs,H.len,Bg,if_neg hx,i0,aI,cE,eu,l4,bV,hf',Dv,Aq (l:=w) (by omega),Ar (l:=w) (by omega),B4 (l:=w) (by omega),u2,u3,dU,hb,hbs];rw[bd e2];simp -implicitDefEqProofs only[bm,aj,hw]
   ·rw[if_neg hf];have hf':¬(decide (w.getD 0 []=[102,117,110,99])&&decide (w.length=4))=true:=by simpa using hf
    by_cases hps:ps=[]
    ·subst hps;refine⟨h,?_⟩;rw[CW (show ([]:List (Cod×Nat)).map (·.1)=[]from rfl)];have h0:((([]:List (Cod×Nat)).length:Nat):Int)=0:=rfl;simp -implicitDefEqProofs only[L10_0,ar,az,aB,aj,ak,CU,CW h1,hix,q6,ht,aw,hs,H.len,Bg,if_neg hx,i0,aI,cE,eu,l4,bV,if_neg hf',h0,CW];rfl
    ·obtain⟨qs,p,rfl⟩:∃qs p,ps=qs++[p]:=⟨ps.dropLast,ps.getLast hps,(EK hps).symm⟩;have hne:¬((qs++[p]).map (·.1)=[]):=by simp
     have hpl:=hp2 p (by simp);obtain⟨l,h2,h3,rfl,e1,e2,e3,H3⟩:=H.addI (cZ w) (by omega);have hql:qs.length+1<=A.length:=by simpa using hp1
     obtain⟨h',eh⟩:=oi s lines hln hN B (A++[x]) h3 _ _ (by rw[<- e];simp) H3 (by simp;omega) (fun q hq=>by
      rcases Di.1 hq with hq|hq
      ·have:=hp2 q (by simp[hq]);simp;omega
      ·rw[Dp]at hq;subst hq;simp;omega)
     refine⟨h',?_⟩;rw[if_neg hne];have em:(qs++[(({ p.1 with code:=p.1.code++[cZ w] },h.length):Cod×Nat)]).map (·.1)=addI ((qs++[p]).map (·.1)) (cZ w):=by simp[addI]
     rw[em]at eh;rw[<- eh];have hn0:¬(((qs++[p]).length:Int)=0):=by simp;omega
     have hws:IntKind.i64.wrap (((qs++[p]).length:Int)-1)=qs.length:=by rw[bv (by simp only[Dh,Ea];omega) (by simp only[Dh,Ea];omega)];simp
     have ui:=t29 w hw0 (by omega) (fun y hy=>by have:=hwb y hy;omega);have hbs:bb T 26 1 [(0,(cZ w).av)]=some (.sl [(cZ w).av]):=rfl;simp -implicitDefEqProofs only[L10_0,ar,az,aB,aj,ak,CU,CW h1,hix,q6,ht,aw,hs,H.len,Bg,if_neg hx,i0,aI,cE,eu,l4,bV,if_neg hf',if_neg hn0,gU,hws,Cs (E1 qs.length),Cr];rw[bd e1];simp -implicitDefEqProofs only[ui,dU,aw,hbs,aj];rw[bd e2];rw[bd e3];simp -implicitDefEqProofs only[bm,aj,hw]
def gY{n N:Nat}(hn:n<=10000)(hN:N<=1000000){c:Cod}(h:CodLim n N c):ai pg 8 [c.av]=M.pure (.bool (od c))/\(od c=true->CodOk c)/\c.code.length<=10000:=by
 have hl:=h.len;exact⟨t8 c (by omega) (fun i hi=>by have:=(h.ins i hi).1;omega),fun hr=>lq hr h.loc.2 (fun i hi=>(h.ins i hi).2),by omega⟩
def Cd{n N:Nat}(hn:n<=10000)(hN:N<=1000000){l:List Cod}(hl:l.length<=10000)(h:∀c∈l,CodLim n N c):ai pg 9 [bi l]=M.pure (.str (gG l)):=
 t9 od hl (fun c hc=>gY hn hN (h c hc))
def dW(s:aS):AV:=.tup [bi (fv s).1,.int .i64 (fv s).2]
def t10(s:aS)(hs:s.length<=900000)(hln:(cu 10 1 s).length<=10000):ai pg 10 [.str s]=M.pure (dW s):=by
 have hb:=fc 10 1 _ s (C0 _);have hN:∀t∈cu 10 1 s,t.length<=900000:=fun t ht=>by have:=hb.2.2 t ht;omega
 have hsp:=t25 s (by omega);obtain⟨h',e⟩:=oi s (cu 10 1 s) hln hN (cu 10 1 s) [] [] .hn [] rfl (.inl ⟨rfl,rfl⟩) (C0 _) (fun p hp=>by cases hp);have hS:S10 (ai pg) ah (.str s) []= .ok (dW s) h':=by
  have e0:S10 (ai pg) ah (.str s)=ah (L10_0 (ai pg) ah (K10_0 (ai pg) ah)) [.str s,.hn,strs (cu 10 1 s),.int .i64 (cu 10 1 s).length,.int .i64 ([]:List aS).length]:=by
   simp -implicitDefEqProofs only[S10,jn,hsp,aw,cE,aj];rfl
  rw[e0,e];unfold dW fv;cases hg:bz (cu 10 1 s) []with
  |none=>
   simp only[ER,hg];rfl
  |some l=>
   simp only[ER,hg];have hl:=fa (N:=1000000) (cu 10 1 s) [] l 0 hg (fun t ht=>by have:=hN t ht;omega) (fun c hc=>by cases hc);have hL:=Cd (n:=0+(cu 10 1 s).length) (by omega) (C0 _) (l:=l) (by have:=hl.2;simp at this;omega) hl.1;simp -implicitDefEqProofs only[K10_0,ar,az,hL,aw,Cb,aj,ak];by_cases he:gG l=s
   ·rw[CW he,if_neg (by simp[he])];rfl
   ·rw[if_neg he,CW (by simpa using he)];rfl
 have hcl:fR 6 h' (dW s)=dW s:=by
  unfold dW fR bi;simp only[cl,db,bT _ Cod.av (gA _)]
 rw[C10,show cl aC (.str s)= .str s from rfl];funext h;unfold aZ;rw[hS];simp only[hcl];rfl
end Go.Proofs.YtpmcemjkdkbicaaGreatDoor
namespace Go.Proofs.YtpmcemjkdkbicaaGreatDoor
open Go Go.Av
set_option maxRecDepth 1000000
def rC:cf pg 80 6 [] []= .ok (.bool true) []:=by kernel_rfl
def nB:ai pg 6 []=M.pure (.bool true):=by
 funext h;have h1:=tU aW rC (by simp);have e:∀h,ai pg 6 [] h=aZ (cd (pg.cx (ai pg) Tryz.f6.ntmps yc) ah Tryz.f6 (pg.own 6) (db aC [])) h:=fun h=>congrFun (aF aW rfl rfl rfl []) h;rw[e]at h1 |-;unfold aZ at h1 |-;generalize cd (pg.cx (ai pg) Tryz.f6.ntmps yc) ah Tryz.f6 (pg.own 6) (db aC []) []=r at h1 |-;cases r with
 |ok v h'=>
  simp only[R.ok.injEq]at h1;show R.ok (fR 6 h' v) h=_;rw[h1.1];rfl
 |pan v h'=>cases h1
 |fail=>cases h1
end Go.Proofs.YtpmcemjkdkbicaaGreatDoor
namespace Go.Proofs.YtpmcemjkdkbicaaGreatDoor
open Go Go.Av Go.Av.Ap
set_option maxRecDepth 100000
theorem uT{l:List Cod}(s:aS)(hl:l.length<=10000)(hR:∀c∈l,ai pg 8 [c.av]=M.pure (.bool (od c))):∀(B A:List Cod),A++B=l->
  ah (L3_1 (ai pg) ah) [bi l,.str s,.bool true,.bool (A.all od),.int .i64 A.length]=ah (L3_1 (ai pg) ah) [bi l,.str s,.bool true,.bool (l.all od),.int .i64 l.length]
 |[],A,e=>by
  rw[DX]at e;subst e;rfl
 |c:: B,A,e=>by
  have hlen:A.length+(B.length+1)=l.length:=by rw[<- e];simp
  have h1:(A.length:Int)<(l.length:Int):=by omega
  have hix:=wI (l:=l) (n:=A.length) (by omega);rw[Dl l A.length (by omega),show l[A.length]'(by omega)=c by simp[<- e]]at hix;have hw:IntKind.i64.wrap ((A.length:Int)+1)=((A++[c]).length:Nat):=by rw[bv (by omega) (by omega)];simp
  have hr:=hR c (by rw[<- e];simp);have ih:=uT s hl hR B (A++[c]) (by rw[<- e];simp);have ha:(A++[c]).all od=(A.all od&&od c):=by simp
  rw[ha]at ih;rw[<- ih,FL3_1];simp -implicitDefEqProofs only[L3_1,ar,az,jF,aB,aj,ak,CU,CW h1,hix,wK,hr,aw,aI,bV,bm,hw]
theorem uQ{b:List Cod}(s:aS)(hl:b.length<=1000000)(hb:b.all od=true)(hL:ai pg 9 [bi b]=M.pure (.str s))(hR:∀c∈b,ai pg 8 [c.av]=M.pure (.bool (od c))):∀(B A:List Cod),A++B=b->
  ah (L3_0 (ai pg) ah) [.str s,.bool true,bi b,.int .i64 A.length]=M.pure (.bool true)
 |[],A,e=>by
  rw[DX]at e;subst e;have h1:¬((A.length:Int)<(A.length:Int)):=by omega
  rw[FL3_0];simp -implicitDefEqProofs only[L3_0,ar,az,jF,aB,aj,ak,CU,if_neg h1,hL,aw,AO,bL,bJ]
 |c:: B,A,e=>by
  have hlen:A.length+(B.length+1)=b.length:=by rw[<- e];simp
  have h1:(A.length:Int)<(b.length:Int):=by omega
  have hix:=wI (l:=b) (n:=A.length) (by omega);rw[Dl b A.length (by omega),show b[A.length]'(by omega)=c by simp[<- e]]at hix;have hw:IntKind.i64.wrap ((A.length:Int)+1)=((A++[c]).length:Nat):=by rw[bv (by omega) (by omega)];simp
  have hc:od c=true:=C6.1 hb c (by rw[<- e];simp);have hr:=hR c (by rw[<- e];simp);rw[hc]at hr;have ih:=uQ s hl hb hL hR B (A++[c]) (by rw[<- e];simp);rw[FL3_0];simp -implicitDefEqProofs only[L3_0,ar,az,jF,aB,aj,ak,CU,CW h1,hix,wK,hr,aw,kw,D3,C2,Dk,bm,hw,ih]
def rb{l:List Cod}(h6:l.length<=6)(h:∀c∈l,CodOk c/\c.code.length<=80):(fq l).length<=900000/\(cu 10 1 (fq l)).length<=10000:=by
 have h1:∀l:List Cod,(∀c∈l,CodOk c/\c.code.length<=80)->(l.flatMap iB).length<=81*l.length/\∀t∈l.flatMap iB,t.length<=200:=by
  intro l
  induction l with
  |nil=>intro _;simp
  | cons c l ih=>
   intro h;obtain⟨K,k80⟩:=h c (by simp);obtain⟨i1,i2⟩:=ih fun d hd=>h d (by simp[hd]);refine⟨?_,fun t ht=>?_⟩
   ·have:(iB c).length=c.code.length+1:=by simp[iB]
    simp only[Ej,Dh,Dq];omega
   ·rw[Ej,Di]at ht;rcases ht with ht|ht
    ·rcases De.1 ht with rfl|ht
     ·have:=pE K;omega
     ·obtain⟨i,hi,rfl⟩:=Eg.1 ht;exact lF (K.ins i hi).1
    ·exact i2 t ht
 have h2:∀ts:List aS,(∀t∈ts,t.length<=200)->ts.flatten.length<=200*ts.length:=by
  intro ts
  induction ts with
  |nil=>intro _;simp
  |cons t ts ih=>
   intro h;have a:=h t (by simp);have b:=ih fun x hx=>h x (by simp[hx]);simp only[Fx,Dh,Dq];omega
 obtain⟨a,b⟩:=h1 l h;have c:=h2 _ b;refine⟨by unfold fq;omega,?_⟩;unfold fq;rw[gR _ (fun t ht=>by
  obtain⟨c,hc,ht⟩:=Eu.1 ht;exact jX (h c hc).1 t ht),Dh,Ea]
 omega
theorem t3(l:List Cod)(s:aS)(hl:l.length<=140737488355328)(hA:∀c∈l,xV c):ai pg 3 [bi l,.str s]=M.pure (.bool true):=by
 obtain⟨b,hF,hb⟩:=Cq l hl;have hcl:cl aC (bi l)=bi l:=by simp[bi,cl,bT aC Cod.av (gA aC)]
 rw[C3,hcl,show cl aC (.str s)= .str s from rfl]
 have key:S3 (ai pg) ah (bi l) (.str s)=M.pure (.bool true):=by
  by_cases hg:(!b||decide ((2000:Int)<s.length))=true
  ·simp -implicitDefEqProofs only[S3,nB,aw,hF,kw,aj,jG,cG,aI,ar,c8,hg,ak,Dv]
  ·rw [FG]at hg;obtain⟨h1,h2⟩:=D5.1 hg;have hbt:b=true:=by simpa using h1
   obtain⟨h6,h80⟩:=hb hbt;rw[Ee]at h2;have hlim:∀c∈l,CodLim 80 12 c:=fun c hc=>⟨(h80 c hc).1,(hA c hc).1,fun i hi=>⟨(h80 c hc).2 i hi,(hA c hc).2 i hi⟩⟩;have hRR:∀c∈l,ai pg 8 [c.av]=M.pure (.bool (od c)):=fun c hc=>(gY (by omega) (by omega) (hlim c hc)).1;have hLL:=Cd (by omega) (by omega) (by omega) hlim;have e1:S3 (ai pg) ah (bi l) (.str s)=ah (L3_1 (ai pg) ah) [bi l,.str s,.bool true,.bool (([]:List Cod).all od),.int .i64 ([]:List Cod).length]:=by
    simp -implicitDefEqProofs only[S3,nB,aw,hF,kw,aj,jG,cG,aI,ar,c8,hg,ak,C2,Dk];rfl
   rw[e1,uT s (by omega) hRR l [] rfl]
   -- what is read of s
   have hbs:=fc 10 1 _ s (C0 _);have hRs:=t10 s (by omega) (by omega);have hN0:¬((l.length:Int)<(l.length:Int)):=by omega
   have tail:∀v:List AV,True:=fun _=>trivial;have fin:ae (ai pg 10 [.str s]) (fun v36=>
     ae (af (bq v36 0)) (fun v37=>
     ae (af (bq v36 1)) (fun v38=>
     ae (af (ao T BinOp.neq 30 v38 (AV.int IntKind.i64 0))) (fun v39=>
     aA v39 (ae (ay (.bool true) true 1 (ae (af (ao T BinOp.eql 30 v38 (AV.int IntKind.i64 2))) (fun v40=>
     M.pure [v40]))) (fun v41=>
     ae (af (aH (.bool true) (nth v41 0) (AV.bool false))) (fun v42=>
     ae (ay v42 true 1 (ae (af (aM T 22 v37)) (fun v43=>
     ae (af (ao T BinOp.eql 3 v43 (AV.int IntKind.i64 0))) (fun v44=>
     M.pure [v44])))) (fun v45=>
     ae (af (aH v42 (nth v45 0) (AV.bool false))) (fun v46=>
     M.pure v46))))) (ah (L3_0 (ai pg) ah) [.str s,.bool true,v37,AV.int IntKind.i64 0])))))=M.pure (.bool true):=by
    have n2:ao T BinOp.neq 30 (.int .i64 2) (.int .i64 0)=some (.bool true):=rfl;have n0:ao T BinOp.neq 30 (.int .i64 0) (.int .i64 0)=some (.bool false):=rfl;have q2:ao T BinOp.eql 30 (.int .i64 2) (.int .i64 2)=some (.bool true):=rfl;have q0:ao T BinOp.eql 3 (.int .i64 0) (.int .i64 0)=some (.bool true):=rfl;have l0:aM T 22 (bi [])=some (.int .i64 0):=rfl;rcases vl s with h0|⟨h0,h3⟩
    ·obtain⟨k,hk⟩:∃k,fv s=(k,0):=⟨(fv s).1,by rw[<- h0]⟩;obtain⟨ra,rl⟩:=rq hk;have hgo:bz (cu 10 1 s) []=some k:=by
      unfold fv at hk;cases hg:bz (cu 10 1 s) []with
      |none=>rw[hg]at hk;simp at hk
      |some l'=>
       rw[hg]at hk;simp only at hk;split at hk
       ·simp only[Dw,FC]at hk;rw[hk]
       ·simp at hk
     have hlm:=fa (N:=3000) (cu 10 1 s) [] k 0 hgo (fun t ht=>by have:=hbs.2.2 t ht;omega) (fun c hc=>by cases hc);have hkl:k.length<=10000:=by have:=hlm.2;simp at this;omega
     have hL:=Cd (by omega) (by omega) hkl hlm.1;rw[rl]at hL;have hB:=uQ s (by omega) ra hL (fun c hc=>(gY (by omega) (by omega) (hlm.1 c hc)).1) k [] rfl;have hB':ah (L3_0 (ai pg) ah) [.str s,.bool true,bi k,.int .i64 0]=M.pure (.bool true):=hB;have hra:dW s= .tup [bi k,.int .i64 0]:=by unfold dW;rw[hk]
     simp -implicitDefEqProofs only[hRs,hra,aw,bX,Db,DO,aj,n0,ak,C2,Dk,hB']
    ·have hra:dW s= .tup [bi [],.int .i64 2]:=by unfold dW;rw[h0,h3]
     simp -implicitDefEqProofs only[hRs,hra,aw,bX,Db,DO,aj,n2,ak,Dv,bL,q2,ar,bJ,l0,q0]
   have n00:ao T BinOp.neq 30 (.int .i64 0) (.int .i64 0)=some (.bool false):=rfl;have r1:∀x:AV,List.replicate 1 x=[x]:=fun _=>rfl;rw[FL3_1];cases hr:l.all od with
   | true=>
    have hok:∀c∈l,CodOk c/\c.code.length<=80:=fun c hc=>⟨(gY (by omega) (by omega) (hlim c hc)).2.1 (C6.1 hr c hc),(h80 c hc).1⟩;have hls:=rb h6 hok;have hlx:gG l=fq l:=CW hr;have hRd:=t10 (gG l) (by rw[hlx];exact hls.1) (by rw[hlx];exact hls.2);have hra:dW (gG l)= .tup [bi l,.int .i64 0]:=by
     unfold dW;rw[tB hr fun c hc=>⟨(hA c hc).1.2,(hA c hc).2⟩]
    have hS:=t11 (l:=l) ⟨by omega,fun c hc=>⟨by have:=(h80 c hc).1;omega,fun i hi=>by have:=(h80 c hc).2 i hi;omega⟩⟩;simp -implicitDefEqProofs only[L3_1,ar,az,jF,aB,aj,ak,CU,if_neg hN0,hLL,aw,hRd,hra,bX,Db,DO,bL,n00,hS,kw,D3,fL,jv,ll,r1,bJ,cD,C2,Dk];exact fin
   |false=>
    have hlx:gG l=[]:=if_neg (by simp[hr]);have hRd:=t10 [] (by simp) (by rw[eN (by simp)];simp);rw[hlx]at hLL;simp -implicitDefEqProofs only[L3_1,ar,az,jF,aB,aj,ak,CU,if_neg hN0,hLL,aw,hRd,dW,bX,Db,DO,bL,kw,Et,fL,jv,ll,r1,yY,bJ,cD,C2,Dk];exact fin
 rw[key];exact cy true
end Go.Proofs.YtpmcemjkdkbicaaGreatDoor
namespace Go.Proofs.YtpmcemjkdkbicaaGreatDoor.codeBack
open Go Go.Av Go.Av.Ap Go.ChangeShapes Go.WideShapes Go.ChangeAt Go.RowKit Go.Joins Go.Deep
set_option maxRecDepth 1000000
def kids:Kids Tryz.prog (· < Tryz.prog.types.size):=kids_rows (by kernel_rfl) (by kernel_rfl)
def qm:∀t e,t<Tryz.prog.types.size->Tryz.prog.underlying t=some (.slice e)->0<Tryz.prog.cellsOf e:=slices_full_of Tryz.prog (by kernel_rfl)
def ua(H:Type)(enc:TypeId×Value->H)(W:World)(base:Nat)(args:Array Value)(ds gs:List (DataW H))(before:List MemPlace)(hval:∀(j:Nat) t v,Tryz.f3.params[j]? = some t->args[j]? = some v->Value.okWide Tryz.prog W .any base t v)(hW:DataW.Whole enc Tryz.prog Tryz.f3.params.toList Rows.codeBackSpec.vars false W args.toList ds gs before)(hz:(DataW.weightsEach Tryz.prog (Tryz.f3.params.toList++Rows.codeBackSpec.plain.varTypes Tryz.prog) (ds++gs)).all (· <=reachBytes)=true)(hL:laidMetH Tryz.prog Rows.codeBackRow.laid W)(hS:W.ShapedOpen Tryz.prog):
  Calls Tryz.prog 3 args W fun e W'=>∃v,e= .returned v/\Rows.codeBackSpec.post enc Tryz.prog Tryz.f3 false true false false W args v W':=by
 have hW':=hW;obtain⟨p,q,hA0,hV,rfl,hfz,hnd⟩:=hW;have hA:DataW.TrodAll enc Tryz.prog W 0 (fun _=>true) true Tryz.f3.params.toList args.toList ds p:=hA0;have hA1:=hA;rw[Tryz.params3]at hA hval hz;obtain⟨v0,vs0,d0,ds0,p0,q0,ha0,rfl,rfl,h0,r0⟩:=trodAll_cons hA;obtain⟨v1,vs1,d1,ds1,p1,q1,ha1,rfl,rfl,h1,r1⟩:=trodAll_cons r0;obtain⟨hnil,rfl,rfl⟩:=trodAll_nil r1;subst hnil;subst ha1;obtain rfl:args= #[v0,v1]:=by cases args;simp_all
 obtain⟨rfl,rfl⟩:=trodVars_none hV;obtain⟨x0,k0,o0⟩:=sO (fun N=>wT N) Tryz.underlying22 (hval 0 22 v0 rfl rfl) h0 (kY hz (j:=0) rfl rfl);obtain⟨x1,k1,o1⟩:=vZ (fun N=>l5 Tryz.underlying9) Tryz.underlying9 (hval 1 9 v1 rfl rfl) h1 (kY hz (j:=1) rfl rfl);clear hA0;simp only[DX]at hW' hA1;have hlt:=hW'.lt;have hv:aO (g8 W) [] [bi x0,.str x1] [v0,v1]:=by
  simp only[aO];exact⟨_,_,rfl,k0,_,_,rfl,k1,rfl⟩
 refine (tm BW aW (yF hL hS) hv (by rw[t3 x0 x1 o0.1 o0.2];rfl)).mono fun e W' ⟨he,hb⟩=>?_;subst he;exact⟨_,rfl,mz (pv:=[]) hW' (fun _ _ _=>trodAll_cons_mk (shut_bool Tryz.underlying4 _) trodAll_mk0) (fun sp hsp=>
   qz kids qm (by rw[Tryz.params3];decide +kernel) hA1 hlt hb sp hsp) (fun _ _=>rfl) (by simp)
  hb (ok_one (by kernel_rfl) rfl (okWide_bool_mk Tryz.underlying4 _))⟩
def reads(os:Os){H:Type}(enc:TypeId×Value->H):∃ds places,DataW.whole enc Tryz.prog ((jz os).forCall (fun _ _=>0) ⟨#[],#[.slice none 0 0,.string ⟨#[]⟩],[]⟩).memory Tryz.f3.params.toList Rows.codeBackSpec.vars false #[.slice none 0 0,.string ⟨#[]⟩].toList 8=some (ds,[],places):=
 ⟨[.nil,.lit (.string [])],[],by kernel_rfl⟩
def lifted(os:Os)(started:os.Started)(H:Type)(enc:TypeId×Value->H)(F:Stop.Interp):
  ReturnsInHanded {} Tryz.checked os 3 .any ((OpenSpec.ofChange Rows.codeBackSpec).preRow enc Tryz.prog Tryz.f3 Rows.codeBackRow.domain false Rows.codeBackRow.laid) (((OpenSpec.ofChange Rows.codeBackSpec).at F).post enc Tryz.prog Tryz.f3 false true false false):=by
 obtain⟨ds,places,hx⟩:=reads os enc;refine returnsInHanded_of_row (C:=Tryz.checked) (s:=OpenSpec.ofChange Rows.codeBackSpec) B8 started (by kernel_rfl) Tryz.func3
  (witness_row_atRef (enc:=enc) (C:=Tryz.checked) false (jz os) #[.slice none 0 0,.string ⟨#[]⟩] rfl (by kernel_rfl) (by kernel_rfl) (by kernel_rfl)
   (OpenSpec.preRow_of_cond 8 hx (by kernel_rfl) (fun k hk=>by cases hk) (by kernel_rfl) (uH os _))) ?_
 intro W base args ds gs before hval hW _ _ hz hL hS _;exact ua H enc W base args ds gs before hval hW hz hL hS
end Go.Proofs.YtpmcemjkdkbicaaGreatDoor.codeBack
