/- What the functions of the seat compute, part 9: the texts of the claim, one behind the other. Conditions: bounds, as each theorem names them. -/
import Derived.Test.YtpmcemjkdkbicaaGreatDoorTh
import Derived.Lib.SmallJoins
set_option linter.defProp false
set_option linter.unusedSimpArgs false
set_option linter.unusedVariables false
namespace Go.Proofs.YtpmcemjkdkbicaaGreatDoor
open Go Go.Av Go.Av.Ap
set_option maxRecDepth 100000
def Ki{m:Ap.Mod}(hm:m.Lim)(K:ModOk m):MvOk m:=⟨hm,K.vlen,K.vars,K.ilen,K.init,K.olen,K.old,K.wlen,K.forw,K.blen,K.back⟩
def JO{m:Ap.Mod}(K:ModOk m){fs:List Face}(hfs:∀f∈fs,f.Lim)(ha:∀f∈fs,hJ f=true):CxOk m fs where
 vlen:=by have:=K.vlen;omega
 vars:=K.vars
 flen:=by have:=K.flen;omega
 ulen:=by have:=K.ulen;omega
 plen:=fun f hf=>by have:=(K.fns f hf).plen;omega
 pars:=fun f hf=>(K.fns f hf).pars
 res:=fun f hf=>(K.fns f hf).res
 slen:=fun f hf=>(hfs f hf).len
 splen:=fun f hf s hs=>((hfs f hf).sigs s hs).plen
 spars:=fun f hf s hs t ht=>by
  have:=ha f hf
  unfold hJ at this;rw[LO]at this;have h2:=this s hs;simp only[LD,LO]at h2;exact h2.2 t ht
 sres:=fun f hf s hs=>by
  have:=ha f hf
  unfold hJ at this;rw[LO]at this;have h2:=this s hs;simp only[LD]at h2;exact h2.1
theorem C6{m:Ap.Mod}(hm:m.Lim)(MK:ModOk m){fs:List Face}(K:CxOk m fs){q:Nat}{mp:AV}:∀(k i:Nat)(n:Int)(h:Hp),m.funcs.length-i=k->i<=m.funcs.length->JR h q m mp fs n->
  ∃h',ah (L17_0 (ai pg) ah) [.hp q 0,fI m.funcs,.int .i64 m.funcs.length,.int .i64 i] h= .ok (lF (b9 ((zO m fs).drop i))) h':=by
 intro k;have hfl:=MK.flen
 induction k with
 |zero=>
  intro i n h hk hi R;have h1:¬((i:Int)<(m.funcs.length:Int)):=by omega
  have h2:(zO m fs).drop i=[]:=Me (by simp[zO];omega);refine⟨h,?_⟩;rw[FL17_0,h2];simp[L17_0,h1];rfl
 | succ k ih=>
  intro i n h hk hi R;have hlt:i<m.funcs.length:=by omega
  have h1:(i:Int)<(m.funcs.length:Int):=by omega
  have h2:(zO m fs).drop i=(m.funcs[i].name,zP (d6 m fs) m.funcs[i]):: (zO m fs).drop (i+1):=by
   rw[L9 (by simp[zO];exact hlt)];simp[zO]
  have hw:IntKind.i64.wrap ((i:Int)+1)=(i:Int)+1:=bu (by omega);have hix:=vP (l:=m.funcs) (n:=(i:Int)) (by omega) h1;rw[LH,LK m.funcs i hlt]at hix;have hf:=MK.fns _ (LM hlt);have hfl2:=hm.fns _ (LM hlt);rw[h2,b9];generalize m.funcs[i]=f at hix hf hfl2 |-;have R1:=R.set 0;obtain⟨p1,p2⟩:=Ks K 12 f.params f.body 0 _ hf.body hfl2.body (fun z hz=>fc (hf.pars z hz)) (by have:=hf.plen;omega) R1;have s1:∀g:AV->M AV,ae (bI T 3 (.hp q 10) (.int .i64 0)) g h=g (.tup []) (h.set q (be m mp 0)):=fun g=>aW (R.put 0) g;rw[FL17_0];have hne:=gI (d6 m fs) 12 f.params f.body 0;cases ht:bT (d6 m fs) 12 f.params f.body 0 with
  |er b n'=>
   rw[ht]at p1;have hb0:=hne b n' ht;have hb:(b != 0)=true:=Nb.2 hb0;have k1:∀g:AV->M AV,ae (ai pg 46 [.hp q 0,aO f.params,f.body.av]) g (h.set q (be m mp 0))=g (.tup [ty0.av,.int .i64 b]) ((h.set q (be m mp 0)).set q (be m mp n')):=fun g=>aW p1 g;have hx:zP (d6 m fs) f=b:=by unfold zP;rw[ht]
   rw[hx];dsimp only;rw[if_neg hb0];refine⟨(h.set q (be m mp 0)).set q (be m mp n'),?_⟩;simp[L17_0,h1,hix,s1,k1,hb];rfl
  | ok t n'=>
   rw[ht]at p1;have k1:∀g:AV->M AV,ae (ai pg 46 [.hp q 0,aO f.params,f.body.av]) g (h.set q (be m mp 0))=g (.tup [t.av,.int .i64 0]) ((h.set q (be m mp 0)).set q (be m mp n')):=fun g=>aW p1 g;have R2:=R1.set n';have l1:∀g:AV->M AV,ae (bj T 3 (.hp q 10)) g ((h.set q (be m mp 0)).set q (be m mp n'))=g (.int .i64 n') ((h.set q (be m mp 0)).set q (be m mp n')):=fun g=>aW R2.eff g;rw[Ll]at l1;have hbl:=jb (p2 t n' ht) hf.res;have hex:ao T .andNot 3 (.int .i64 n') (.int .i64 f.effects)=some (.int .i64 (gg n' f.effects)):=rfl;by_cases hb:cB t f.result=true
   case neg=>
    rw[OR]at hb;rw[hb]at hbl;have hx:zP (d6 m fs) f=13:=by unfold zP;rw[ht];simp[hb]
    rw[hx];dsimp only;rw[if_neg (by decide)];refine⟨(h.set q (be m mp 0)).set q (be m mp n'),?_⟩;simp[L17_0,h1,hix,s1,k1,hbl];rfl
   case pos=>
    rw[hb]at hbl;by_cases he:gg n' f.effects=0
    ·have hx:zP (d6 m fs) f=0:=by unfold zP;rw[ht];simp[hb,he]
     rw[hx];dsimp only;rw[LC rfl];obtain⟨h',e'⟩:=ih (i+1) n' _ (by omega) (by omega) R2;have e'':ah (L17_0 (ai pg) ah) [.hp q 0,fI m.funcs,.int .i64 m.funcs.length,.int .i64 ((i:Int)+1)] ((h.set q (be m mp 0)).set q (be m mp n'))=_:=e';rw[Ll]at e'';refine⟨h',?_⟩;simp[L17_0,h1,hix,s1,k1,hbl,l1,hex,he,hw,-oK];exact e''
    ·have hx:zP (d6 m fs) f=14:=by unfold zP;rw[ht];simp[hb,he]
     rw[hx];dsimp only;rw[if_neg (by decide)];have he':(gg n' f.effects != 0)=true:=Nb.2 he;refine⟨(h.set q (be m mp 0)).set q (be m mp n'),?_⟩;simp[L17_0,h1,hix,s1,k1,hbl,l1,hex,he',-oK];rfl
def C7{m:Ap.Mod}(hm:m.Lim)(MK:ModOk m){fs:List Face}(K:CxOk m fs){q:Nat}{mp:AV}{h:Hp}(R:JR h q m mp fs 0):∀(k i:Nat),m.uses.length-i=k->i<=m.uses.length->
  ∃h',ah (L17_1 (ai pg) ah) [.ip (ab m.av),.hp q 0,strs m.uses,.int .i64 m.uses.length,.int .i64 i] h= .ok (lF (b9 ((kW m fs).drop i++j9 m:: zO m fs))) h':=by
 intro k;have hul:=MK.ulen
 induction k with
 | zero=>
  intro i hk hi;have h1:¬((i:Int)<(m.uses.length:Int)):=by omega
  have h2:(kW m fs).drop i=[]:=Me (by simp[kW];omega);have hmv:=Le (Ki hm MK);rw[h2,Mn,b9,FL17_1];unfold lF at hmv;by_cases hb:(j9 m).2=0
  ·rw[LC hb];obtain⟨h',e'⟩:=C6 hm MK K m.funcs.length 0 0 h rfl (LZ _) R;have e'':ah (L17_0 (ai pg) ah) [.hp q 0,fI m.funcs,.int .i64 m.funcs.length,.int .i64 0] h= .ok (lF (b9 (zO m fs))) h':=e';rw[hb]at hmv;refine⟨h',?_⟩;simp[L17_1,h1,hmv,e'']
  ·rw[if_neg hb];have hb':((j9 m).2 != 0)=true:=Nb.2 hb;refine⟨h,?_⟩;simp[L17_1,h1,hmv,hb'];rfl
 | succ k ih=>
  intro i hk hi;have hlt:i<m.uses.length:=by omega
  have h1:(i:Int)<(m.uses.length:Int):=by omega
  have h2:(kW m fs).drop i=(m.uses[i],if(fs.find? fun f=>f.module== m.uses[i]).isNone||m.uses[i]== m.name then 12 else 0):: (kW m fs).drop (i+1):=by
   rw[L9 (by simp[kW];exact hlt)];simp[kW]
  have hw:IntKind.i64.wrap ((i:Int)+1)=(i:Int)+1:=bu (by omega);have hix:=jI (l:=m.uses) (n:=(i:Int)) (by omega) h1;rw[LH,LK m.uses i hlt]at hix;obtain⟨h',e'⟩:=ih (i+1) (by omega) (by omega);have e'':ah (L17_1 (ai pg) ah) [.ip (ab m.av),.hp q 0,strs m.uses,.int .i64 m.uses.length,.int .i64 ((i:Int)+1)] h=_:=e';rw[h2,Mg,b9,FL17_1];generalize m.uses[i]=u at hix |-;have l1:∀g:AV->M AV,ae (bj T 107 (.hp q 9)) g h=g mp h:=fun g=>aW R.mp g;have l2:∀g:AV->M AV,ae (eO T 107 mp (.str u) true) g h=g (.tup [((fs.find? fun f=>f.module== u).getD lO).av,.bool (fs.find? fun f=>f.module== u).isSome]) h:=fun g=>aW (m5 R.map u) g;simp only[bN]at e'';cases hf:fs.find? (fun f=>f.module== u)with
  |none=>
   rw[hf]at l2;refine⟨h,?_⟩;simp[L17_1,h1,hix,l1,l2,kz,lF];rfl
  | some f=>
   rw[hf]at l2;by_cases hu:u=m.name
   ·subst hu;refine⟨h,?_⟩;simp[L17_1,h1,hix,l1,l2,kz,lF];rfl
   ·refine⟨h',?_⟩;have hu':(u== m.name)=false:=LX.2 hu;simp[L17_1,h1,hix,l1,l2,kz,hu,hw,e'']
theorem Lc(m:Ap.Mod)(hm:m.Lim)(fs:List Face)(hfs:∀f∈fs,f.Lim)(hlen:fs.length<=140737488355328):ai pg 17 [m.av,faces fs]=M.pure (lF (jf m fs)):=by
 have fin:∀(h:Hp)(x:aU×Int),fV 6 h (lF x)=lF x:=fun h x=>by
  have hc:Ap.Clean (lF x):=fun g=>by simp[lF,cl,dn]
  exact hc.frz 6 h
 have hR:=t13 m hm;have lm:aj T 42 (.ip (ab m.av))=some m.av:=rfl;obtain⟨n1,n2⟩:=Ld m fs hfs hlen [];rw[C17,mL,Az];unfold jf;cases ha:fs.all hJ with
 |false=>
  obtain⟨h',e'⟩:=n2 ha;have k1:∀g:AV->M AV,ae (ai pg 44 [m.av,faces fs]) g []=g (.tup [.nilp,.bool false]) h':=fun g=>aW e' g;refine ca (v:=lF ([],1)) (h':=h') ?_ (fin _ _);simp only[bN]at lm;simp[S17,k1,lm];rfl
 | true=>
  have e1:=n1 ha;have k1:∀g:AV->M AV,ae (ai pg 44 [m.av,faces fs]) g []=g (.tup [.hp 1 0,.bool true]) ([]++[[.tup (cp (c7 [] fs))],be m (.mp 0) 0]):=fun g=>aW e1 g;cases hr:gB m with
  |false=>
   rw[hr]at hR;refine ca (v:=lF ([],1)) (h':=[]++[[.tup (cp (c7 [] fs))],be m (.mp 0) 0]) ?_ (fin _ _);simp only[bN]at lm;simp[S17,k1,lm,hR];rfl
  | true=>
   rw[hr]at hR;have MK:=sR hr;have hdm:∀f∈c7 [] fs,f∈fs:=fun f hf=>by
    rcases q5 fs [] f hf with h|h
    ·cases h
    ·exact h
   have K:CxOk m (c7 [] fs):=JO MK (fun f hf=>hfs f (hdm f hf)) (fun f hf=>LO.1 ha f (hdm f hf));have R:JR ([]++[[.tup (cp (c7 [] fs))],be m (.mp 0) 0]) 1 m (.mp 0) (c7 [] fs) 0:=⟨rfl,.inr ⟨0,rfl,rfl⟩,by simp⟩;obtain⟨h',e'⟩:=C7 hm MK K R m.uses.length 0 rfl (LZ _);have e'':ah (L17_1 (ai pg) ah) [.ip (ab m.av),.hp 1 0,strs m.uses,.int .i64 m.uses.length,.int .i64 0] ([]++[[.tup (cp (c7 [] fs))],be m (.mp 0) 0])= .ok (lF (b9 (kW m (c7 [] fs)++j9 m:: zO m (c7 [] fs)))) h':=e';simp only[bN]at lm e'';simp only[NT,Mc];refine ca (v:=lF (b9 (kW m (c7 [] fs)++j9 m:: zO m (c7 [] fs)))) (h':=h') ?_ (fin _ _);rw[<- e''];simp[S17,k1,lm,hR]
end Go.Proofs.YtpmcemjkdkbicaaGreatDoor
namespace Go.Proofs.YtpmcemjkdkbicaaGreatDoor
open Go Go.Av
set_option maxRecDepth 1000000
def xj:dq pg 80 6 [] []= .ok (.bool true) []:=by kernel_rfl
def rO:ai pg 6 []=M.pure (.bool true):=by
 funext h;have h1:=Aw aI xj (by simp);have e:∀h,ai pg 6 [] h=aM (cX (pg.cx (ai pg) Tryz.f6.ntmps F7) ah Tryz.f6 (pg.own 6) (dn az [])) h:=fun h=>congrFun (aC aI rfl rfl rfl []) h;rw[e]at h1 |-;unfold aM at h1 |-;generalize cX (pg.cx (ai pg) Tryz.f6.ntmps F7) ah Tryz.f6 (pg.own 6) (dn az []) []=r at h1 |-;cases r with
 |ok v h'=>
  simp only[R.ok.injEq]at h1;show R.ok (fV 6 h' v) h=_;rw[h1.1];rfl
 |pan v h'=>cases h1
 |fail=>cases h1
end Go.Proofs.YtpmcemjkdkbicaaGreatDoor
namespace Go.Proofs.YtpmcemjkdkbicaaGreatDoor
open Go Go.Av Go.Av.Ap
set_option maxRecDepth 100000
def J2(f:Face)(hf:f.Lim):∃b,ai pg 16 [f.av]=M.pure (.bool b):=by
 have hlen:=hf.len;obtain⟨b,hb⟩:=sE (FL16_0 (ai pg)) (fun k=>[.ip (ab f.av),.int .i64 (k:Int)]) f.funcs.length (by
  by_cases h:(f.funcs.length:Int)<=8<;>simp[L16_0,h]) (fun k hk=>by
  have h1:(k:Int)<(f.funcs.length:Int):=by omega
  have hix:=CG (l:=f.funcs) (n:=(k:Int)) (by omega) h1;rw[LH,LK f.funcs k hk]at hix;have hm':=LM hk;generalize f.funcs[k]=t at hix hm';have w3:IntKind.i64.wrap ((k:Int)+1)=(k:Int)+1:=by rw[bu (by omega)];simp
  obtain⟨b,hb⟩:=J4 t (hf.sigs t hm');by_cases h9:(k:Int)<9
  ·have h9':k<9:=by omega
   cases b with
   |false=>exact .inl ⟨false,by simp[L16_0,h1,hk,hix,hb,h9,h9']⟩
   |true=>exact .inr (by simp[L16_0,h1,hk,hix,hb,h9,h9',w3])
  ·have h9':¬k<9:=by omega
   refine .inl ?_;by_cases h:(f.funcs.length:Int)<=8<;>simp[L16_0,h1,hk,h9,h9',h]) 0 (LZ _)
 refine⟨b,?_⟩;rw[C16];have hb':ah (L16_0 (ai pg) ah) [.ip (ab f.av),.int .i64 0]=M.pure (.bool b):=hb;simp only[S16,sg,hb',cF]
theorem Iw(t:Nat)(a b:Int):ao T .neq t (.int .i64 a) (.int .i64 b)=some (.bool (a != b)):=rfl
def Gw(o:Option (List Int)):Jd o= .tup [ints (o.getD []),.bool o.isSome]:=by cases o<;>rfl
theorem wU(v38:List AV->M AV)(x0:AV)(e:Int)(L:List Cod){k:Nat}(hk:k<=1000000)(hl:List Int)(hb:hl.length<=1000000)(h0:e=0->∀j,j<hl.length->0<=hl[j]!):∀n j:Nat,hl.length-j=n->j<=hl.length->
  ah (L5_0 (ai pg) ah v38) [x0,.bool true,.int .i64 e,dp L,.int .i64 (k:Int),ints hl,.int .i64 (j:Int)]=v38 [x0,.bool true,.int .i64 e,dp L,.int .i64 ((k+1:Nat):Int)]
 |0,j,hn,hj=>by
  have h1:¬((j:Int)<(hl.length:Int)):=by omega
  have hw:IntKind.i64.wrap ((k:Int)+1)=((k+1:Nat):Int):=by rw[a8 (by omega) (by omega)];omega
  rw[FL5_0];simp -implicitDefEqProofs only[L5_0,aw,aB,iZ,aH,am,ap,LB,if_neg h1,bD,hw]
 | n+1,j,hn,hj=>by
  have h1:(j:Int)<(hl.length:Int):=by omega
  have hix:=FV (l:=hl) (n:=(j:Int)) (by omega) h1;rw[LH]at hix;have hli:∀a:Int,aj T 3 (.ip (ab (.int .i64 a)))=some (.int .i64 a):=fun _=>rfl;have hw:IntKind.i64.wrap ((j:Int)+1)=((j+1:Nat):Int):=by rw[a8 (by omega) (by omega)];omega
  have hf:(decide (e=0)&&decide (hl[j]! < 0))=false:=by
   by_cases he:e=0
   ·have:=h0 he j (by omega)
    rw[Mp (by omega:¬hl[j]! < 0),N4]
   ·rw[Mp he,Nt]
  have ih:=wU v38 x0 e L hk hl hb h0 n (j+1) (by omega) (by omega);rw[FL5_0];simp -implicitDefEqProofs only[L5_0,aw,aB,iZ,aH,am,ap,LB,LC h1,eV,hix,hli,bA,ax,d7,hf,LJ,Md,bD,hw,ih]
structure CompOk (m:Ap.Mod) (e:Int):Prop where
 flen:m.funcs.length<=1000000
 lim:∀f∈m.funcs,CodLim 181 1000000 (bh m.vars f)
 hts:e=0->∀f∈m.funcs,∃hl,cj (bh m.vars f)=some hl/\hl.length=(bh m.vars f).code.length/\∀k,k<(bh m.vars f).code.length->0<=hl[k]!
theorem BC(m:Ap.Mod)(e:Int)(K:CompOk m e)(hH:∀f∈m.funcs,((cj (bh m.vars f)).getD []).length<=1000000):∀n k:Nat,m.funcs.length-k=n->k<=m.funcs.length->
  ah (L5_1 (ai pg) ah) [.ip (ab m.av),.bool true,.int .i64 e,dp (m.funcs.map (bh m.vars)),.int .i64 (k:Int)]=ah (L5_1 (ai pg) ah) [.ip (ab m.av),.bool true,.int .i64 e,dp (m.funcs.map (bh m.vars)),.int .i64 (m.funcs.length:Int)]
 |0,k,hn,hk=>by rw[show k=m.funcs.length by omega]
 | n+1,k,hn,hk=>by
  have hlt:k<m.funcs.length:=by omega
  have hlen:(m.funcs.map (bh m.vars)).length=m.funcs.length:=by simp
  have h1:(k:Int)<((m.funcs.map (bh m.vars)).length:Int):=by omega
  have hik:=Il (l:=m.funcs.map (bh m.vars)) (n:=k) (by omega);have hck:(m.funcs.map (bh m.vars))[k]! = bh m.vars m.funcs[k]:=by rw[LK _ k (by omega)];simp
  rw[hck]at hik;have hix:=vP (l:=m.funcs) (n:=(k:Int)) (by omega) (by omega);rw[LH,LK m.funcs k hlt]at hix;have hm':=LM hlt;generalize m.funcs[k]=f at hik hix hm';have hlm:=K.lim f hm';have hll:=hlm.len;have hnm:∀i∈(bh m.vars f).code,i.names.length<=1000000:=fun i hi=>(hlm.ins i hi).1;have hT:=t18 (bh m.vars f) (by omega) hnm;rw[Gw]at hT;have hR:=t8 (bh m.vars f) (by omega) hnm;have hb:=hH f hm';have hcf:(bh m.vars f).func=f.name:=rfl;have hcp:(bh m.vars f).params=f.params.length:=rfl;have hfl:=K.flen;have ih:=BC m e K hH n (k+1) (by omega) (by omega);have r1:∀x:AV,List.replicate 1 x=[x]:=fun _=>rfl;rw[<- ih,FL5_1];by_cases he:e=0
  ·subst he;obtain⟨hl,g1,g2,g3⟩:=K.hts rfl f hm';rw[g1]at hT hR hb;have hI:=wU (ah (L5_1 (ai pg) ah)) (.ip (ab m.av)) 0 (m.funcs.map (bh m.vars)) (k:=k) (by omega) hl hb (fun _ j hj=>g3 j (by omega)) hl.length 0 rfl (LZ _);have hI':ah (L5_0 (ai pg) ah (ah (L5_1 (ai pg) ah))) [.ip (ab m.av),.bool true,.int .i64 0,dp (m.funcs.map (bh m.vars)),.int .i64 (k:Int),ints hl,.int .i64 0]=_:=hI;have hbl:((hl.length:Int) != ((bh m.vars f).code.length:Int))=false:=by rw[g2];exact Nn _
   have q0:decide ((0:Int)=0)=true:=rfl;simp -implicitDefEqProofs only[L5_1,aw,aB,sL,aH,am,ap,LB,LC h1,hik,fK0,G7,fM4,Ji,hix,fF0,Kf,hcf,D8,bX,fK1,G8,hcp,fF2,Jf,mE,zl,ax,dB,LJ,Md,Dv,hT,cn,LV,Mo,eV,q0,kO,Option.isSome_some,ME,hR,ct,fK3,vM,ol,iZ,Oa,Iw,hbl,Nn,MI,hI']
  ·have hI:=wU (ah (L5_1 (ai pg) ah)) (.ip (ab m.av)) e (m.funcs.map (bh m.vars)) (k:=k) (by omega) ((cj (bh m.vars f)).getD []) hb (fun h=>absurd h he) _ 0 rfl (LZ _);have hI':ah (L5_0 (ai pg) ah (ah (L5_1 (ai pg) ah))) [.ip (ab m.av),.bool true,.int .i64 e,dp (m.funcs.map (bh m.vars)),.int .i64 (k:Int),ints ((cj (bh m.vars f)).getD []),.int .i64 0]=_:=hI;simp -implicitDefEqProofs only[L5_1,aw,aB,sL,aH,am,ap,LB,LC h1,hik,fK0,G7,fM4,Ji,hix,fF0,Kf,hcf,D8,bX,fK1,G8,hcp,fF2,Jf,mE,zl,ax,dB,LJ,Md,Dv,hT,cn,LV,Mo,eV,Mp he,kB,wJ,r1,Iw,Nn,hI']
def uH{l:List Cod}(h6:l.length<=6)(h:∀c∈l,CodOk c/\c.code.length<=181):(iz l).length<=900000/\(eb 10 1 (iz l)).length<=10000:=by
 have h1:∀l:List Cod,(∀c∈l,CodOk c/\c.code.length<=181)->(l.flatMap lI).length<=182*l.length/\∀t∈l.flatMap lI,t.length<=200:=by
  intro l
  induction l with
  |nil=>intro _;simp
  | cons c l ih=>
   intro h;obtain⟨K,k80⟩:=h c (by simp);obtain⟨i1,i2⟩:=ih fun d hd=>h d (by simp[hd]);refine⟨?_,fun t ht=>?_⟩
   ·have:(lI c).length=c.code.length+1:=by simp[lI]
    simp only[M5,L4,LQ];omega
   ·rw[M5,L3]at ht;rcases ht with ht|ht
    ·rcases LU.1 ht with rfl|ht
     ·have:=uo K;omega
     ·obtain⟨i,hi,rfl⟩:=Mu.1 ht;exact pD (K.ins i hi).1
    ·exact i2 t ht
 have h2:∀ts:List aU,(∀t∈ts,t.length<=200)->ts.flatten.length<=200*ts.length:=by
  intro ts
  induction ts with
  |nil=>intro _;simp
  |cons t ts ih=>
   intro h;have a:=h t (by simp);have b:=ih fun x hx=>h x (by simp[hx]);simp only[OH,L4,LQ];omega
 obtain⟨a,b⟩:=h1 l h;have c:=h2 _ b;refine⟨by unfold iz;omega,?_⟩;unfold iz;rw[kp _ (fun t ht=>by
  obtain⟨c,hc,ht⟩:=Nh.1 ht;exact nC (h c hc).1 t ht),L4,MP]
 omega
theorem HX(m:Ap.Mod)(e:Int)(K:CompOk m e)(h6:m.funcs.length<=6):ah (L5_1 (ai pg) ah) [.ip (ab m.av),.bool true,.int .i64 e,dp (m.funcs.map (bh m.vars)),.int .i64 (m.funcs.length:Int)]=M.pure (.bool true):=by
 have hlen:(m.funcs.map (bh m.vars)).length=m.funcs.length:=by simp
 have h1:¬((m.funcs.length:Int)<((m.funcs.map (bh m.vars)).length:Int)):=by omega
 rw[FL5_1];by_cases he:e=0
 ·subst he;have hlm:∀c∈m.funcs.map (bh m.vars),CodLim 181 1000000 c:=fun c hc=>by
   obtain⟨f,hf,rfl⟩:=Mu.1 hc;exact K.lim f hf
  have hr:(m.funcs.map (bh m.vars)).all Gy=true:=by
   rw[LO];intro c hc;obtain⟨f,hf,rfl⟩:=Mu.1 hc;obtain⟨hl,g1,_⟩:=K.hts rfl f hf;unfold Gy;rw[g1];rfl
  have hLL:=KP (by omega) (by omega) (by omega) hlm;have hok:∀c∈m.funcs.map (bh m.vars),CodOk c/\c.code.length<=181:=fun c hc=>⟨(rJ (by omega) (by omega) (hlm c hc)).2.1 (LO.1 hr c hc),(hlm c hc).len⟩;have hls:=uH (by omega) hok;have hlx:nN (m.funcs.map (bh m.vars))=iz (m.funcs.map (bh m.vars)):=LC hr;have hRd:=t10 (nN (m.funcs.map (bh m.vars))) (by rw[hlx];exact hls.1) (by rw[hlx];exact hls.2);have hra:kj (nN (m.funcs.map (bh m.vars)))= .tup [dp (m.funcs.map (bh m.vars)),.int .i64 0]:=by
   unfold kj;rw[zE hr fun c hc=>⟨(hlm c hc).loc.2,fun i hi=>((hlm c hc).ins i hi).2⟩]
  have hS:=t11 (l:=m.funcs.map (bh m.vars)) ⟨by omega,fun c hc=>⟨by have:=(hlm c hc).len;omega,fun i hi=>((hlm c hc).ins i hi).1⟩⟩;have n00:((0:Int) != 0)=false:=rfl;have q0:decide ((0:Int)=0)=true:=rfl;simp -implicitDefEqProofs only[L5_1,aw,aB,sL,aH,am,ap,LB,if_neg h1,Iw,n00,LJ,Md,hLL,ax,hRd,hra,cn,LV,Mo,eV,q0,MI,bX,ct,hS,aw]
 ·have hne:(e != 0)=true:=by simpa using he
  simp -implicitDefEqProofs only[L5_1,aw,aB,sL,aH,am,ap,LB,if_neg h1,Iw,hne,Mc]
def uq(c:Cod)(hc:c.code.length<=1000000):((cj c).getD []).length<=1000000:=by
 have key:∀(n:Nat)(nd gv:Int)(k:Nat)(nx hl td hl' td':List Int),eF n k nd gv nx hl td=some (hl',td')->hl'.length=hl.length:=by
  intro n nd gv k nx
  induction nx with
  |nil=>intro hl td hl' td' h;simp only[eF,LA,Mv]at h;rw[h.1]
  | cons v nx ih=>
   intro hl td hl' td' h;simp only[eF]at h;split at h
   ·cases h
   ·split at h
    ·have:=ih _ _ _ _ h;simpa using this
    ·split at h
     ·cases h
     ·exact ih _ _ _ _ h
 have run:∀(f:Nat)(hl td hl':List Int),kP c.code f hl td=some hl'->hl'.length=hl.length:=by
  intro f
  induction f with
  |zero=>intro hl td hl' h;cases h
  | succ f ih=>
   intro hl td hl' h;cases td with
   |nil=>simp only[kP,LA]at h;rw[h]
   | cons a td=>
    simp only[kP]at h;split at h
    ·cases h
    ·split at h
     ·cases h
     ·rename_i hl2 td2 hs;rw[ih _ _ _ h,key _ _ _ _ _ _ _ _ _ hs]
 cases h:cj c with
 |none=>simp
 | some hl=>
  unfold cj at h;split at h
  ·have:=run _ _ _ _ h
   simp only[LQ,NI]at this;show hl.length<=_;omega
  ·cases h
theorem HM(m:Ap.Mod)(fs:List Face)(hm:m.Lim)(hl:fs.length<=140737488355328)(hf:∀f∈fs,f.Lim)(h6:m.funcs.length<=6)(hc:∀f∈m.funcs,d5 14 f.body<=60):
  ah (L5_2 (ai pg) ah) [faces fs,.ip (ab m.av),.bool true,.int .i64 (fs.length:Int)]=M.pure (.bool true):=by
 have h1:¬((fs.length:Int)<(fs.length:Int)):=by omega
 have hCk:=Lc m hm fs hf hl;have hCo:=t14 m hm;have hSR:=t13 m hm;rw[FL5_2];cases hr:gB m with
 |false=>
  rw[hr,if_neg (by simp)]at hCo;rw[tK hr]at hCk;have l0:aK T 22 (dp [])=some (.int .i64 0):=rfl;have q0:decide ((0:Int)=0)=true:=rfl;have n1:((1:Int) != 0)=true:=rfl;simp -implicitDefEqProofs only[L5_2,aw,aB,kY,aH,am,ap,LB,if_neg h1,G9,hCk,lF,ax,cn,LV,Mo,hCo,hSR,hr,kO,M0,Mc,l0,eV,q0,MI,bX,ct,Iw,n1]
 |true=>
  rw[hr,LC rfl]at hCo;have K:=sR hr;have hv:=K.vlen;have CK:CompOk m (jf m fs).2:=⟨by omega,fun f hf'=>tN (by omega) (K.fns f hf') (hc f hf'),fun he f hf'=>sr K.vlen (K.fns f hf') ((tJ he).2 f hf')⟩;have hlen:(((m.funcs.map (bh m.vars)).length:Nat):Int)=m.funcs.length:=by simp
  have hF:=BC m (jf m fs).2 CK (fun f hf'=>uq _ (by have:=(CK.lim f hf').len;omega)) m.funcs.length 0 (by omega) (LZ _);have hF':ah (L5_1 (ai pg) ah) [.ip (ab m.av),.bool true,.int .i64 (jf m fs).2,dp (m.funcs.map (bh m.vars)),.int .i64 0]=_:=hF;rw[HX m _ CK h6]at hF';simp -implicitDefEqProofs only[L5_2,aw,aB,kY,aH,am,ap,LB,if_neg h1,G9,hCk,lF,ax,cn,LV,Mo,hCo,hSR,hr,kO,ME,LJ,Md,sL,hlen,fM4,Ji,vQ,zl,hF']
def t5(m:Ap.Mod)(fs:List Face)(hm:m.Lim)(hl:fs.length<=140737488355328)(hf:∀f∈fs,f.Lim):ai pg 5 [m.av,faces fs]=M.pure (.bool true):=by
 obtain⟨b,hF,hb⟩:=HY m hm;have hcl:cl az m.av=m.av:=by simp
 have hcf:cl az (faces fs)=faces fs:=by simp
 rw[C5,hcl,hcf];have key:S5 (ai pg) ah m.av (faces fs)=M.pure (.bool true):=by
  by_cases hg:(!b||decide ((4:Int)<fs.length))=true
  ·simp -implicitDefEqProofs only[S5,rO,ax,G9,am,hF,kO,kY,gH,bA,aw,ic,hg,ap,Mc]
  ·rw[OR]at hg;obtain⟨h1,h2⟩:=M7.1 hg;have hbt:b=true:=by simpa using h1
   obtain⟨h6,h60⟩:=hb hbt;have loop:∀n k:Nat,fs.length-k=n->k<=fs.length->ah (L5_2 (ai pg) ah) [faces fs,.ip (ab m.av),.bool true,.int .i64 (k:Int)]=M.pure (.bool true):=by
    intro n
    induction n with
    |zero=>
     intro k hn hk;rw[show k=fs.length by omega];exact HM m fs hm hl hf h6 h60
    |succ n ih=>
     intro k hn hk;have hlt:k<fs.length:=by omega
     have h1:(k:Int)<(fs.length:Int):=by omega
     have hix:=Ht (l:=fs) (n:=(k:Int)) (by omega) h1;rw[LH,LK fs k hlt]at hix;have hm':=LM hlt;generalize fs[k]=f at hix hm';obtain⟨c,hc⟩:=J2 f (hf f hm');have lf:aj T 51 (.ip (ab f.av))=some f.av:=by simp
     have hw:IntKind.i64.wrap ((k:Int)+1)=((k+1:Nat):Int):=by rw[a8 (by omega) (by omega)];omega
     have i2:=ih (k+1) (by omega) (by omega);rw[FL5_2];cases c with
     |false=>simp -implicitDefEqProofs only[L5_2,aw,aB,kY,aH,am,ap,LB,LC h1,hix,lf,hc,ax,kO,M0,Mc]
     |true=>simp -implicitDefEqProofs only[L5_2,aw,aB,kY,aH,am,ap,LB,LC h1,hix,lf,hc,ax,kO,ME,LJ,Md,bD,hw,i2]
   have l0:=loop fs.length 0 (by omega) (LZ _);have l0':ah (L5_2 (ai pg) ah) [faces fs,.ip (ab m.av),.bool true,.int .i64 0]=M.pure (.bool true):=l0;simp -implicitDefEqProofs only[S5,rO,ax,G9,am,hF,kO,kY,gH,bA,aw,ic,hg,ap,LJ,Md,l0']
 rw[key];exact cF true
end Go.Proofs.YtpmcemjkdkbicaaGreatDoor
namespace Go.Proofs.YtpmcemjkdkbicaaGreatDoor.codeRight
open Go Go.Av Go.Av.Ap Go.ChangeShapes Go.WideShapes Go.ChangeAt Go.RowKit Go.Joins Go.Deep
set_option maxRecDepth 1000000
def kids:Kids Tryz.prog (· < Tryz.prog.types.size):=kids_rows (by kernel_rfl) (by kernel_rfl)
def vt:∀t e,t<Tryz.prog.types.size->Tryz.prog.underlying t=some (.slice e)->0<Tryz.prog.cellsOf e:=slices_full_of Tryz.prog (by kernel_rfl)
def AK(H:Type)(enc:TypeId×Value->H)(W:World)(base:Nat)(args:Array Value)(ds gs:List (DataW H))(before:List MemPlace)(hval:∀(j:Nat) t v,Tryz.f5.params[j]? = some t->args[j]? = some v->Value.okWide Tryz.prog W .any base t v)(hW:DataW.Whole enc Tryz.prog Tryz.f5.params.toList Rows.codeRightSpec.vars false W args.toList ds gs before)(hz:(DataW.weightsEach Tryz.prog (Tryz.f5.params.toList++Rows.codeRightSpec.plain.varTypes Tryz.prog) (ds++gs)).all (· <=reachBytes)=true)(hL:laidMetH Tryz.prog Rows.codeRightRow.laid W)(hS:W.ShapedOpen Tryz.prog):
  Calls Tryz.prog 5 args W fun e W'=>∃v,e= .returned v/\Rows.codeRightSpec.post enc Tryz.prog Tryz.f5 false true false false W args v W':=by
 have hW':=hW;obtain⟨p,q,hA0,hV,rfl,hfz,hnd⟩:=hW;have hA:DataW.TrodAll enc Tryz.prog W 0 (fun _=>true) true Tryz.f5.params.toList args.toList ds p:=hA0;have hA1:=hA;rw[Tryz.params5]at hA hval hz;obtain⟨v0,vs0,d0,ds0,p0,q0,ha0,rfl,rfl,h0,r0⟩:=trodAll_cons hA;obtain⟨v1,vs1,d1,ds1,p1,q1,ha1,rfl,rfl,h1,r1⟩:=trodAll_cons r0;obtain⟨hnil,rfl,rfl⟩:=trodAll_nil r1;subst hnil;subst ha1;obtain rfl:args= #[v0,v1]:=by cases args;simp_all
 obtain⟨rfl,rfl⟩:=trodVars_none hV;obtain⟨x0,k0,o0⟩:=vU (fun N=>(GR N).le (NV N)) (fun a=>rfl) Tryz.underlying42 (hval 0 42 v0 rfl rfl) h0 (oW hz (j:=0) rfl rfl);obtain⟨x1,k1,o1⟩:=yI (fun N=>BW N) Tryz.underlying47 (hval 1 47 v1 rfl rfl) h1 (oW hz (j:=1) rfl rfl);clear hA0;simp only[MW]at hW' hA1;have hlt:=hW'.lt;have hv:bg (kK W) [] [x0.av,faces x1] [v0,v1]:=by
  simp only[bg];exact⟨_,_,rfl,k0,_,_,rfl,k1,rfl⟩
 refine (zr J6 aI (Gu hL hS) hv (by rw[t5 x0 x1 o0 o1.1 o1.2];rfl)).mono fun e W' ⟨he,hb⟩=>?_;subst he;exact⟨_,rfl,qG (pv:=[]) hW' (fun _ _ _=>trodAll_cons_mk (shut_bool Tryz.underlying4 _) trodAll_mk0) (fun sp hsp=>
   vV kids vt (by rw[Tryz.params5];decide +kernel) hA1 hlt hb sp hsp) (fun _ _=>rfl) (by simp)
  hb (ok_one (by kernel_rfl) rfl (okWide_bool_mk Tryz.underlying4 _))⟩
def reads(os:Os){H:Type}(enc:TypeId×Value->H):∃ds places,DataW.whole enc Tryz.prog ((mX os).forCall (fun _ _=>0) ⟨#[],#[.agg #[.string ⟨#[]⟩,.slice none 0 0,.slice none 0 0,.slice none 0 0,.slice none 0 0,.bool false,.slice none 0 0,.slice none 0 0,.slice none 0 0],.slice none 0 0],[]⟩).memory Tryz.f5.params.toList Rows.codeRightSpec.vars false #[.agg #[.string ⟨#[]⟩,.slice none 0 0,.slice none 0 0,.slice none 0 0,.slice none 0 0,.bool false,.slice none 0 0,.slice none 0 0,.slice none 0 0],.slice none 0 0].toList 8=some (ds,[],places):=
 ⟨[.agg [.lit (.string []),.nil,.nil,.nil,.nil,.lit (.bool false),.agg [.nil,.nil,.nil]],.nil],[],by kernel_rfl⟩
def lifted(os:Os)(started:os.Started)(H:Type)(enc:TypeId×Value->H)(F:Stop.Interp):
  ReturnsInHanded {} Tryz.checked os 5 .any ((OpenSpec.ofChange Rows.codeRightSpec).preRow enc Tryz.prog Tryz.f5 Rows.codeRightRow.domain false Rows.codeRightRow.laid) (((OpenSpec.ofChange Rows.codeRightSpec).at F).post enc Tryz.prog Tryz.f5 false true false false):=by
 obtain⟨ds,places,hx⟩:=reads os enc;refine returnsInHanded_of_row (C:=Tryz.checked) (s:=OpenSpec.ofChange Rows.codeRightSpec) Kl started (by kernel_rfl) Tryz.func5
  (witness_row_atRef (enc:=enc) (C:=Tryz.checked) false (mX os) #[.agg #[.string ⟨#[]⟩,.slice none 0 0,.slice none 0 0,.slice none 0 0,.slice none 0 0,.bool false,.slice none 0 0,.slice none 0 0,.slice none 0 0],.slice none 0 0] rfl (by kernel_rfl) (by kernel_rfl) (by kernel_rfl)
   (OpenSpec.preRow_of_cond 8 hx (by kernel_rfl) (fun k hk=>by cases hk) (by kernel_rfl) (Bj os _))) ?_
 intro W base args ds gs before hval hW _ _ hz hL hS _;exact AK H enc W base args ds gs before hval hW hz hL hS
end Go.Proofs.YtpmcemjkdkbicaaGreatDoor.codeRight
