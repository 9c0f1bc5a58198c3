/- What the functions of the seat compute, part 5: the texts of the claim, one behind the other. Conditions: bounds, as each theorem names them. -/
import Derived.Test.YteemeakjlfnapaaGreatDoorTd
set_option linter.defProp false
set_option linter.unusedSimpArgs false
set_option linter.unusedVariables false
namespace Go.Proofs.YteemeakjlfnapaaGreatDoor
open Go Go.Av Go.Av.Ap
set_option maxRecDepth 100000
def aF{α β:Type}{m:M α}{a:α}{h h':Hp}(e:m h= .ok a h')(f:α->M β):ae m f h=f a h':=by simp only[ae,e]
def A5(x:br):(ab (ba x)).length=3:=by simp
def DW(x:Ty):(ab x.av).length=2:=by simp
def iw(l:List br):aC l= .sl (l.map ba):=by rw[aC,cE]
def t104(t:Ty)(h:a8 t=true):ah pg 104 [t.av]=M.pure t.av:=by
 have e0:ah pg 104 [t.av]=iS (ah pg) [t.av]:=dV hOther rfl _;rw[e0];simp only[iS,y0 5 t (yq 4 t (oY 4 t h)),GK];rfl
theorem gQ{α:Type}(F:α->Bool):(l:List α)->(i:Int)->(l.find? F=none/\bW F l i= -1)\/∃(k:Nat)(x:α),l.find? F=some x/\l[k]? = some x/\bW F l i=i+k
 |[],i=>.inl ⟨rfl,rfl⟩
 | x:: l,i=>by
  cases h:F x with
  |true=>exact .inr ⟨0,x,by simp[h],rfl,by simp[bW,h]⟩
  |false=>
   rcases gQ F l (i+1)with⟨h1,h2⟩|⟨k,y,h1,h2,h3⟩
   ·exact .inl ⟨by simp[h,h1],by simp[bW,h,h2]⟩
   ·exact .inr ⟨k+1,y,by simp[h,h1],by simpa using h2,by simp[bW,h,h3];omega⟩
theorem FP{q n i:Nat}(h:i<n):ak T 54 (.hs q 0 n 2 true) (.int .i64 (i:Int))=some (.hp q (0+i*2)):=by
 have e:ak T 54 (.hs q 0 n 2 true) (.int .i64 (i:Int))=if 0<=(i:Int)/\(i:Int)<(n:Int)then some (.hp q (0+(i:Int).toNat*2))else none:=rfl;rw[e,GM (by omega),GP]
def zT{q:Nat}{l:List Ty}{i:Nat}{h:Hp}(hi:i<l.length)(hq:h[q]? = some (rowOf Ty.av l)):bn T 27 (.hp q (0+i*2)) h= .ok l[i].av h:=by
 have hlen:=eR (f:=Ty.av) DW l;rw[oX (T:=T) (t:=27) rfl rfl hq (show 0+i*2+2<=_ by omega)];show R.ok (AV.agg (((rowOf Ty.av l).drop (0+i*2)).take 2)) h=_;rw[G1,d7 DW l i hi,bG,cu]
def vS{q:Nat}{l:List Ty}{i:Nat}{h:Hp}(hi:i<l.length)(hq:h[q]? = some (rowOf Ty.av l)):bH T 27 (.hp q (0+i*2)) l[i].av h= .ok (.tup []) h:=by
 have hlen:=eR (f:=Ty.av) DW l;refine lV (T:=T) (t:=27) rfl hq (Ap.gU _) (show 0+i*2+2<=_ by omega) (by decide) ?_;rw[bG];show ((rowOf Ty.av l).drop (0+i*2)).take 2=_;rw[G1,d7 DW l i hi,bG]
def Co(l:List Ty)(hb:l.length<=4611686018427387904)(hk:∀t∈l,ah pg 104 [t.av]=M.pure t.av)(q:Nat)(h:Hp)(hq:h[q]? = some (rowOf Ty.av l))(x3 x4 x5 x6 x7:AV)(nm:bA)(k e:Int)(fs:List br):∀(n i:Nat),l.length-i=n->i<=l.length->
  aj (L37_0 (ah pg) aj) [.hs q 0 l.length 2 true,.int .i64 l.length,.int .i64 i,x3,x4,x5,x6,x7,.str nm,.hs q 0 l.length 2 true,.int .i64 k,aC fs,.int .i64 e] h= .ok (.tup [.agg [.str nm,.hs q 0 l.length 2 true,.int .i64 k,aC fs,.int .i64 e],.bool true]) h:=by
 intro n
 induction n with
 |zero=>
  intro i hn hi;rw[FL37_0];have h1:¬((i:Int)<(l.length:Int)):=by omega
  have h2:aw 5 [] (.agg [.str nm,.hs q 0 l.length 2 true,.int .i64 k,aC fs,.int .i64 e])=M.pure (.agg [.str nm,.hs q 0 l.length 2 true,.int .i64 k,aC fs,.int .i64 e]):=aY rfl;simp[L37_0,h1,h2,M.pure]
 |succ n ih=>
  intro i hn hi;have hlt:i<l.length:=by omega
  have h1:(i:Int)<(l.length:Int):=by omega
  have ih':=ih (i+1) (by omega) (by omega);have hw:IntKind.i64.wrap ((i:Int)+1)=((i+1:Nat):Int):=aK (by omega);have hc:=hk l[i] (GQ hlt);rw[<- ih'];generalize hcode:aj (L37_0 (ah pg) aj) [.hs q 0 l.length 2 true,.int .i64 l.length,.int .i64 i,x3,x4,x5,x6,x7,.str nm,.hs q 0 l.length 2 true,.int .i64 k,aC fs,.int .i64 e] h=code;rw[FL37_0]at hcode;simp -implicitDefEqProofs only[L37_0,bc,bm,bT,aI,aZ,h1,HB,Hk,FP hlt]at hcode;rw[aF (zT hlt hq)]at hcode;simp -implicitDefEqProofs only[Av.dW,aR,bG,aI,LD27,GY,G4,G1,Nat.reduceAdd,GL,Hk,Hb,Hn,cu,hc,eM]at hcode;rw[show (i*2)=0+i*2 by omega]at hcode;rw[aF (vS hlt hq)]at hcode;simp -implicitDefEqProofs only[dL,aI,hw]at hcode;rw[<- hcode]
def r7:Sig:=⟨[],[],ty0,0⟩
def t102(s:Sig)(name:bA):ah pg 102 [s.av,.ip [.str name]]=M.pure (.bool (s.name== name)):=by
 rw[C102];simp[S102,cl,c8]
theorem t37(f:Face)(hf:f.Lim)(hr:dE f=true)(name:bA):ah pg 37 [f.av,.str name]=M.pure (match oM f name with
  |some s=>.tup [s.av,.bool true]
  |none=>.tup [r7.av,.bool false]):=by
 have hlen:=hf.len;have h1:=t101 (.fn (.func 102) [] [.ip [.str name]]) (fun s=>s.name== name) f.funcs (by omega) (fun g=>rfl) (fun x _=>t102 x name);unfold dE at hr;simp only[GJ,GT]at hr;rw[C37];unfold oM;rcases gQ (fun s:Sig=>s.name== name) f.funcs 0 with⟨h2,h3⟩|⟨k,s,h2,h3,h4⟩
 ·rw[h3]at h1;rw[h2];have e1:be T false 56 []=some r7.av:=rfl;simp[S37,cl,h1,e1];exact bL fun g=>by simp[cl,c8]
 ·have hm:s∈f.funcs:=HM h3;have hrs:=hr.2.1 s hm;unfold fo at hrs;simp only[GJ,GX,GT]at hrs;obtain⟨⟨⟨⟨_,hpl⟩,_⟩,hrr⟩,hps⟩:=hrs;have hk:k<f.funcs.length:=(G8.1 h3).1;rw[Int.zero_add]at h4;rw[h4]at h1;rw[h2];have hix:=qD (l:=f.funcs) (n:=(k:Int)) (by omega) (by omega);rw[GP,H6,h3]at hix;have hix':ak T 22 (sigs f.funcs) (.int .i64 (k:Int))=some (.ip (ab s.av)):=hix;have hneg:¬((k:Int)<0):=by omega
  have hcl:=fun t (ht:t∈s.params)=>t104 t (hps t ht);have hcr:=t104 s.result hrr;have e0:ah pg 103 [dR s.params]=cU T 54 (ah pg) [dR s.params]:=dV hOther rfl _;have e1:=mD (T:=T) (t:=54) (f:=Ty.av) (sz:=2) rfl rfl rfl rfl rfl (by decide) (by decide) (fun x=>Ap.gU x) (ah pg) s.params (show s.params.length*32<=140737488355328 by omega) [];rw[show AV.sl (s.params.map Ty.av)=dR s.params from rfl,<- e0]at e1;funext hp;show aG _ hp=R.ok (.tup [s.av,.bool true]) hp;by_cases hps0:s.params=[]
  ·rw[GM hps0]at e1;have e2:aw 5 [] (.agg [.str s.name,.sl [],.int .i64 s.result.kind,aC s.result.fields,.int .i64 s.effects])=M.pure (.agg [.str s.name,.sl [],.int .i64 s.result.kind,aC s.result.fields,.int .i64 s.effects]):=aY rfl;have key:S37 (ah pg) aj (cl ay f.av) (cl ay (.str name)) []= .ok (.tup [.agg [.str s.name,.sl [],.int .i64 s.result.kind,aC s.result.fields,.int .i64 s.effects],.bool true]) []:=by
    simp only[S37,gJ,mB,c6,FA24_1,aI,HH,Hi,LD22,eD,h1,aR,bT,hneg,I9,aZ,HI,Hm,hix',LD56,dx,GY,G4,G1,Nat.reduceAdd,GL,Hk,Hb,Hn,fP,gH,bc,bm];rw[aF e1];simp only[cu,hcr,eM,aR,bZ,bd,GK,aI,il,bG,Aw,bc,bm];rw[FL37_0];simp[L37_0,e2,M.pure]
   unfold aG;rw[key];have:(AV.agg [.str s.name,.sl [],.int .i64 s.result.kind,aC s.result.fields,.int .i64 s.effects])=s.av:=by rw[<- fP,hps0];rfl
   rw[this];have hc:Ap.Clean (AV.tup [s.av,.bool true]):=fun g=>by simp[cl,c8]
   exact GR (fun x=>R.ok x hp) (hc.frz 6 [])
  ·rw[if_neg hps0]at e1;have hq:([]++[rowOf Ty.av s.params]:Hp)[0]? = some (rowOf Ty.av s.params):=rfl;have key:S37 (ah pg) aj (cl ay f.av) (cl ay (.str name)) []= .ok (.tup [.agg [.str s.name,.hs 0 0 s.params.length 2 true,.int .i64 s.result.kind,aC s.result.fields,.int .i64 s.effects],.bool true]) ([]++[rowOf Ty.av s.params]):=by
    simp only[S37,gJ,mB,c6,FA24_1,aI,HH,Hi,LD22,eD,h1,aR,bT,hneg,I9,aZ,HI,Hm,hix',LD56,dx,GY,G4,G1,Nat.reduceAdd,GL,Hk,Hb,Hn,fP,gH,bc,bm];rw[aF e1];simp only[cu,hcr,eM,aR,bZ,bd,GK,aI,il,bG,Bq,bc,bm,G4];exact Co s.params (by omega) hcl 0 _ hq _ _ _ _ _ _ _ _ _ s.params.length 0 rfl (by omega)
   unfold aG;rw[key];have hfr:=kL (f:=Ty.av) DW (fun x=>by rw[bG,cu]) (fun x g=>lx g x) (by decide) hq 5;have:f7 6 ([]++[rowOf Ty.av s.params]) (.tup [.agg [.str s.name,.hs 0 0 s.params.length 2 true,.int .i64 s.result.kind,aC s.result.fields,.int .i64 s.effects],.bool true])= .tup [s.av,.bool true]:=by
    rw[<- fP];show AV.tup [.agg [.str s.name,f7 6 ([]++[rowOf Ty.av s.params]) (.hs 0 0 s.params.length 2 true),.int .i64 s.result.kind,cl _ (aC s.result.fields),.int .i64 s.effects],.bool true]=_;rw[hfr,l8];rfl
   show R.ok (f7 6 _ _) hp=_;rw[this]
def t64(a b:Face)(ha:a.Lim)(hb:b.Lim):ah pg 64 [a.av,b.av]=M.pure (.bool (gS a b)):=by
 rw[C64];have h1:=t27 a ha;have h2:=t27 b hb;unfold gS;by_cases g1:a.module=b.module
 ·have g1':(a.module== b.module)=true:=Hj.2 g1;by_cases g2:dE a=true
  ·rw[g2]at h1;simp only[S64,gJ,c6,FA24_0,Hi,LD9,aI,md,g1',dh,LD24,GY,G4,G1,Nat.reduceAdd,GL,Hk,Hb,Hn,gm,h1,h2,g2,aR,bc,eN,cY,HJ,IM]
  ·rw[Im]at g2;rw[g2]at h1;simp only[S64,gJ,c6,FA24_0,Hi,LD9,aI,md,g1',dh,vt,List.replicate,LD24,GY,G4,G1,Nat.reduceAdd,GL,Hk,Hb,Hn,gm,h1,g2,aR,bc,eN,lP,cY,HJ,I1,Jb]
 ·have g1':(a.module== b.module)=false:=GU.2 g1;simp[S64,g1,g1']
theorem Cp(old now:Face)(ho:old.Lim)(hn:now.Lim)(hr:dE now=true)(x4 x5 x6 x7 x8:AV):∀(n i:Nat),old.funcs.length-i=n->i<=old.funcs.length->
  aj (L65_0 (ah pg) aj) [.ip (ab now.av),sigs old.funcs,.int .i64 old.funcs.length,.int .i64 i,x4,x5,x6,x7,x8]=M.pure (match (old.funcs.drop i).find? (fun f=>!(kO now f))with
   |some s=>.tup [s.av,.bool true]
   |none=>.tup [r7.av,.bool false]):=by
 have hlen:=ho.len;intro n
 induction n with
 |zero=>
  intro i hni hi;rw[FL65_0];have h1:¬((i:Int)<(old.funcs.length:Int)):=by omega
  have h2:old.funcs.drop i=[]:=G5 (by omega);have e1:be T false 56 []=some r7.av:=rfl;simp[L65_0,h1,h2,e1]
 | succ n ih=>
  intro i hni hi;have hlt:i<old.funcs.length:=by omega
  have h1:(i:Int)<(old.funcs.length:Int):=by omega
  have h2:old.funcs.drop i=old.funcs[i]:: old.funcs.drop (i+1):=GZ hlt;have ih':=ih (i+1) (by omega) (by omega);have hw:IntKind.i64.wrap ((i:Int)+1)=((i+1:Nat):Int):=aK (by omega);have hix:=qD (l:=old.funcs) (n:=(i:Int)) (by omega) h1;rw[GP,G2 old.funcs i hlt]at hix;have hfl:=ho.sigs _ (GQ hlt);generalize old.funcs[i]=f at hix h2 hfl;have h3:=t37 now hn hr f.name;have hkb:kO now f=(match oM now f.name with|some g=>vU g f|none=>false):=rfl;rw[h2,FL65_0];simp only[L65_0,bc,bm,bT,aI,h1,HB,aZ,Hk,hix,dx,LD56,GY,G4,G1,Nat.reduceAdd,GL,Hb,Hn,fP,jo,aR,c6,LD24,gm,FA56_0,Hi,LD9,h3];cases hfs:oM now f.name with
  |none=>
   rw[hfs]at hkb;simp[hkb]
  | some g=>
   rw[hfs]at hkb;simp only at hkb;have hgl:g.Lim:=hn.sigs g (HS hfs);have h4:=t44 g f hgl hfl;cases hs:vU g f with
   |true=>
    rw[hs]at h4 hkb;simp[hkb,h4,hw];simpa using ih'
   |false=>
    rw[hs]at h4 hkb;simp[hkb,h4]
theorem t65(old now:Face)(ho:old.Lim)(hn:now.Lim)(hr:dE now=true):ah pg 65 [old.av,now.av]=M.pure (match gt old now with
   |some s=>.tup [s.av,.bool true]
   |none=>.tup [r7.av,.bool false]):=by
 rw[C65];have h:=Cp old now ho hn hr (.str []) (.sl []) (.int .i64 0) (.sl []) (.int .i64 0) old.funcs.length 0 rfl (by omega);rw[Hi]at h;unfold gt;simp[S65,sigs]at h|-;rw[h];cases List.find? (fun f=>!kO now f) old.funcs with
 |none=>exact bL fun g=>by simp[cl,c8]
 |some s=>exact bL fun g=>by simp[cl,c8]
def t17(a b:Face)(ha:a.Lim)(hb:b.Lim):ah pg 17 [a.av,b.av]=M.pure (.tup [.int .i64 (e9 a b).1,.str (e9 a b).2]):=by
 rw[C17];have h1:=t64 a b ha hb;have hc:∀(k:Int)(s:bA),aG (M.pure (.tup [.int .i64 k,.str s]))=M.pure (.tup [.int .i64 k,.str s]):=fun k s=>bL fun g=>rfl;unfold e9;cases hm:gS a b with
 |false=>
  rw[hm]at h1;simp[S17,h1,hc]
 | true=>
  rw[hm]at h1;unfold gS at hm;simp only[GJ]at hm;have h2:=t65 a b ha hb hm.2;have h3:=t65 b a hb ha hm.1.2;cases hl:gt a b with
  |some s=>
   rw[hl]at h2;simp[S17,h1,h2,hc]
  | none=>
   rw[hl]at h2;cases hl2:gt b a with
   |some s=>
    rw[hl2]at h3;simp[S17,h1,h2,h3,hc]
   |none=>
    rw[hl2]at h3;simp[S17,h1,h2,h3,hc]
end Go.Proofs.YteemeakjlfnapaaGreatDoor
namespace Go.Proofs.YteemeakjlfnapaaGreatDoor
open Go Go.Av
set_option maxRecDepth 1000000
def tI:cK pg 80 14 [] []= .ok (.bool true) []:=by kernel_rfl
def fF:ah pg 14 []=M.pure (.bool true):=by
 funext h;have h1:=xy hOther tI (by simp);have e:∀h,ah pg 14 [] h=aG (bV (pg.cx (ah pg) Tryz.f14.ntmps wF) aj Tryz.f14 (pg.own 14) (c8 ay [])) h:=fun h=>JF (az hOther rfl rfl rfl []) h;rw[e]at h1 |-;unfold aG at h1 |-;generalize bV (pg.cx (ah pg) Tryz.f14.ntmps wF) aj Tryz.f14 (pg.own 14) (c8 ay []) []=r at h1 |-;cases r with
 |ok v h'=>
  simp only[R.ok.injEq]at h1;show R.ok (f7 6 h' v) h=_;rw[h1.1];rfl
 |pan v h'=>cases h1
 |fail=>cases h1
end Go.Proofs.YteemeakjlfnapaaGreatDoor
namespace Go.Proofs.YteemeakjlfnapaaGreatDoor
open Go Go.Av Go.Av.Ap
set_option maxRecDepth 100000
def dk(t:Ty):Prop:=∀n,Ty.Short n t
def dk.len{t:Ty}(h:dk t):t.fields.length<=1000000000:=(h 1).1
def dk.kid{t:Ty}(h:dk t){f:br}(hf:f∈t.fields):dk f.2:=fun n=>(h (n+1)).2 f hf
def dQ{d:Nat}{t:Ty}(h:cL d t=true):dk t:=fC d t h
def qo{k:Int}{fs:List br}(h:fs.length<=1000000000)(hf:∀f∈fs,dk f.2):dk (.mk k fs):=fun n=>by
 cases n with
 |zero=>exact trivial
 |succ n=>exact⟨h,fun f hm=>hf f hm n⟩
def t6{t:Ty}{f:br}(h:f∈t.fields):SizeOf.sizeOf f.2<SizeOf.sizeOf t:=by
 cases t with
 |mk k fs=>
  have h1:=IF (show f∈fs from h);obtain⟨n,t⟩:=f;simp only[IV,Ty.mk.sizeOf_spec]at h1 |-;have:SizeOf.sizeOf t<SizeOf.sizeOf ((n,t):br):=by simp only[IV];omega
  simp only[IV]at this;omega
def li(f:br)(fs l:List br):fW (f:: fs) l=(match y6 f l with|some x=>[x]|none=>[])++fW fs l:=by
 simp only[fW];rfl
theorem nJ(f:br)(l:List br):y6 f l=match aN (fun z=>z.1== f.1) l with
  |some z=>(match nL f.2 z.2 with|some u=>some (f.1,u)|none=>none)
  |none=>none:=by
 obtain⟨n,t⟩:=f;simp only[y6];rfl
theorem sn(l:List br):(fs:List br)->(fW fs l).length<=fs.length
 |[]=>by simp[fW]
 |f:: fs=>by
  have:=sn l fs
  rw[li,Ho,GY];cases y6 f l<;>simp<;>omega
def pU(n:bA)(t:Ty):be T false 76 [(0,.str n),(1,t.av)]=some (ba (n,t)):=by
 cases t;rfl
def Fa(f:br):bg T 25 1 [(0,ba f)]=some (aC [f]):=by
 obtain⟨n,t⟩:=f;cases t;rfl
theorem zp(l:List br):bZ (aC l)=M.pure (aC l):=rfl
def z8(b:Ty)(hb:dk b)(l:List br)(hl:l.length<=1000000000)(k:Int)(x4 x5:AV)(hk:∀f∈l,∀t:Ty,dk t->ah pg 232 [f.2.av,t.av]=M.pure (match nL f.2 t with|some u=>.tup [u.av,.bool true]|none=>.tup [ty0.av,.bool false])):∀(n i:Nat)(acc:List br),l.length-i=n->i<=l.length->acc.length<=i->
  aj (L232_0 (ah pg) aj) [.ip (ab b.av),aC l,.int .i64 l.length,.int .i64 i,x4,x5,.int .i64 k,aC acc]=M.pure (.tup [(Ty.mk k (acc++fW (l.drop i) b.fields)).av,.bool true]):=by
 intro n
 induction n with
 |zero=>
  intro i acc hn hi ha;have h1:¬((i:Int)<(l.length:Int)):=by omega
  have h2:l.drop i=[]:=G5 (by omega);have h3:aw 2 [] (.agg [.int .i64 k,aC acc])=M.pure (.agg [.int .i64 k,aC acc]):=aY rfl;rw[FL232_0,h2];simp[L232_0,h1,fW,h3];rfl
 | succ n ih=>
  intro i acc hn hi ha;have hlt:i<l.length:=by omega
  have h1:(i:Int)<(l.length:Int):=by omega
  have h2:l.drop i=l[i]:: l.drop (i+1):=GZ hlt;have hw:IntKind.i64.wrap ((i:Int)+1)=(i:Int)+1:=aK (by omega);have hix:=lX (l:=l) (n:=(i:Int)) (by omega) h1;rw[GP,G2 l i hlt]at hix;have hk':=hk l[i] (GQ hlt);have hlk:=t181 b.fields hb.len l[i].1;have ih2:∀acc:List br,acc.length<=i+1->aj (L232_0 (ah pg) aj) [.ip (ab b.av),aC l,.int .i64 l.length,.int .i64 ((i:Int)+1),x4,x5,.int .i64 k,aC acc]=M.pure (.tup [(Ty.mk k (acc++fW (l.drop (i+1)) b.fields)).av,.bool true]):=fun acc ha=>ih (i+1) acc (by omega) (by omega) ha;simp only[bG]at ih2;rw[FL232_0,h2,li,nJ];generalize l[i]=f at hix hk' hlk |-;cases hz:aN (fun z:br=>z.1== f.1) b.fields with
  |none=>
   rw[hz]at hlk;have ih':=ih2 acc (by omega);simp[L232_0,h1,hix,hlk,hw,ih']
  | some z=>
   rw[hz]at hlk;have hc:=hk' z.2 (hb.kid (fD hz).1);cases hu:nL f.2 z.2 with
   |none=>
    rw[hu]at hc;have ih':=ih2 acc (by omega);simp[L232_0,h1,hix,hlk,hw,hc,hu,ih']
   |some u=>
    rw[hu]at hc;have ih':=ih2 (acc++[(f.1,u)]) (by simp;omega);have hap:=Bi (a:=acc) (b:=[(f.1,u)]) (by simp;omega);simp[L232_0,h1,hix,hlk,hw,hc,hu,pU,Fa,hap,zp,ih']
theorem t232(a b:Ty)(ha:dk a)(hb:dk b):ah pg 232 [a.av,b.av]=M.pure (match nL a b with|some u=>.tup [u.av,.bool true]|none=>.tup [ty0.av,.bool false]):=by
 have hloop:=z8 b hb a.fields ha.len a.kind (.int .i64 0) (.sl []) (fun f hf t ht=>by
  have:=t6 hf
  exact t232 f.2 t (ha.kid hf) ht) a.fields.length 0 [] rfl (G9 _) (G9 _)
 rw[C232];have e1:nL a b=if a.kind=b.kind then some (.mk a.kind (fW a.fields b.fields))else none:=by
  cases a;cases b;simp only[nL,Ty.kind,Ty.fields];rfl
 have b1:be T false 27 []=some ty0.av:=rfl;have b2:∀k:Int,be T true 27 [(0,.int .i64 k)]=some (.agg [.int .i64 k,.hn]):=fun k=>rfl;have b3:∀k:Int,aw 2 [1] (.agg [.int .i64 k,.hn])=M.pure (.agg [.int .i64 k,.hn]):=fun k=>rfl;rw[e1];simp only[Hi,Hu]at hloop;by_cases hk:a.kind=b.kind
 ·have hk':(a.kind != b.kind)=false:=by simp[hk]
  rw[GM hk];have hloop':aj (L232_0 (ah pg) aj) [.ip (ab b.av),aC a.fields,.int .i64 a.fields.length,.int .i64 0,.int .i64 0,.sl [],.int .i64 a.kind,.sl []]=M.pure (.tup [(Ty.mk a.kind (fW a.fields b.fields)).av,.bool true]):=hloop;simp only[bG]at hloop';simp[S232,hk',b2,b3,hloop'];exact bL fun g=>by simp[cl,c8]
 ·have hk':(a.kind != b.kind)=true:=by simp[hk]
  rw[if_neg hk];simp[S232,hk',b1];exact bL fun g=>by simp[cl,c8]
termination_by SizeOf.sizeOf a
def bC{m:M AV}{v r:AV}{h':Hp}(e:m []= .ok v h')(f:f7 6 h' v=r):aG m=M.pure r:=by
 funext hp;unfold aG;rw[e];show R.ok (f7 6 h' v) hp=R.ok r hp;rw[f]
def t231(t:Ty)(k:Int):ah pg 231 [t.av,.ip [.int .i64 k]]=M.pure (.bool (t.kind != k)):=by
 rw[C231];simp[S231,cl,c8]
def t230(k:Int)(l:List Ty)(hl:l.length<=1000000):ah pg 230 [.int .i64 k,.ip [dR l]]=M.pure (.bool (f9 k l)):=by
 have h:=t148 (.fn (.func 231) [] [.ip [.int .i64 k]]) (fun t=>t.kind != k) l (by omega) (fun g=>by simp[cl,c8]) (fun t _=>t231 t k);rw[C230];have e:(!l.any fun t=>t.kind != k)=f9 k l:=by
  unfold f9;rw[Jz];congr 1;funext t;simp[bne]
 simp[S230,cl,c8,h,e]
theorem B1(f:AV->M AV):ae (newH [.int .i64 0,.hn]) f []=f (.hp 0 0) [[.int .i64 0,.hn]]:=rfl
theorem B2(f:AV->M AV)(k:Int)(fs:List AV)(c1 c2:AV):ae (bH T 27 (.hp 0 0) (.agg [.int .i64 k,.sl fs])) f [[c1,c2]]=f (.tup []) [[.int .i64 k,.sl fs]]:=rfl
theorem su(f:AV->M AV)(k:Int)(c1 c2:AV):ae (bH T 27 (.hp 0 0) (.agg [.int .i64 k,.hn])) f [[c1,c2]]=f (.tup []) [[.int .i64 k,.hn]]:=rfl
theorem B3(f:AV->M AV)(k:Int)(c1 c2:AV):ae (bH T 3 (.hp 0 0) (.int .i64 k)) f [[c1,c2]]=f (.tup []) [[.int .i64 k,c2]]:=rfl
theorem B4(f:AV->M AV)(c1 c2:AV):ae (bn T 27 (.hp 0 0)) f [[c1,c2]]=f (.agg [c1,c2]) [[c1,c2]]:=rfl
theorem fa0:aa T 27 (.hp 0 0) 0=some (.hp 0 0):=rfl
theorem fa1:aa T 27 (.hp 0 0) 1=some (.hp 0 1):=rfl
theorem sx:be T true 27 []=some (.agg [.int .i64 0,.hn]):=rfl
theorem tR:be T false 27 []=some ty0.av:=rfl
def sy(k:Int):aw 2 [] (.agg [.int .i64 k,.hn])=M.pure (.agg [.int .i64 k,.hn]):=aY rfl
def sA(k:Int)(fs:List AV):aw 2 [] (.agg [.int .i64 k,.sl fs])=M.pure (.agg [.int .i64 k,.sl fs]):=aY rfl
def Gn(k:Int)(l n:Nat):aw 2 [] (.agg [.int .i64 k,.hs l 0 n 3 true])=M.pure (.agg [.int .i64 k,.hs l 0 n 3 true]):=aY rfl
theorem AZ(n:Int):bZ (.int .i64 n)=M.pure (.int .i64 n):=rfl
theorem yZ:ty0.av= .agg [.int .i64 0,.sl []]:=rfl
def Dj(f:AV->M AV)(t:Ty)(c1 c2:AV):ae (bH T 27 (.hp 0 0) t.av) f [[c1,c2]]=f (.tup []) [[.int .i64 t.kind,aC t.fields]]:=by
 rw[<- cu];rfl
def cnt(t:Ty):aw 2 [] (.agg [.int .i64 t.kind,aC t.fields])=M.pure (.agg [.int .i64 t.kind,aC t.fields]):=aY rfl
def zh(h:Hp)(acc:List br):Prop:=(acc=[]/\h[0]? = some [.int .i64 2,.hn])\/(acc≠[]/\∃q,q≠0/\h[0]? = some [.int .i64 2,.hs q 0 acc.length 3 true]/\h[q]? = some (rowOf ba acc))
theorem Bh:(l:List br)->(rowOf ba l).all bd=true
 |[]=>rfl
 |f:: l=>by
  rw[gZ,List.all_append,Bh l,IM,cC];rfl
def wi{h:Hp}{acc:List br}(A:zh h acc)(hl:acc.length<=1000000)(f:br):∃sv rv h1 h2,bn T 25 (.hp 0 1) h= .ok sv h/\appH T 25 false sv (aC [f]) h= .ok rv h1/\bH T 25 (.hp 0 1) rv h1= .ok (.tup []) h2/\zh h2 (acc++[f]):=by
 have hfl:aC [f]= .sl [ba f]:=by rw[iw];rfl
 have h0l:0<h.length:=by
  rcases A with⟨_,h0⟩|⟨_,q,_,h0,_⟩
  ·exact (G8.1 h0).1
  ·exact (G8.1 h0).1
 rcases A with⟨rfl,h0⟩|⟨hne,q,hq0,h0,hq⟩
 ·have e1:bn T 25 (.hp 0 1) h= .ok .hn h:=jw rfl rfl h0 rfl;have e2:=DL (T:=T) (t:=25) (e:=76) rfl rfl rfl (x:=ba f) (fS f) (by decide) (by decide) (by decide) h;rw[<- hfl]at e2;have h0':(h++[ab (ba f)])[0]? = some [.int .i64 2,.hn]:=by rw[G3 h0l];exact h0
  have e3:=qp (T:=T) (t:=25) rfl (k:=1) (v:=.hs h.length 0 1 3 true) h0' rfl (by decide) (by decide);refine⟨_,_,_,_,e1,e2,e3,.inr ⟨by simp,h.length,by omega,?_,?_⟩⟩
  ·rw[HZ (by simp)];rfl
  ·rw[Ii (by omega),Hc (GL _),Ix];simp[rowOf]
 ·have e1:bn T 25 (.hp 0 1) h= .ok (.hs q 0 acc.length 3 true) h:=jw rfl rfl h0 rfl;have hln:=eR (f:=ba) A5 acc;have hpos:0<acc.length:=Io.2 hne;have e2:=DN (T:=T) (t:=25) (e:=76) rfl rfl rfl (x:=ba f) (fS f) (by decide) (by decide) hq (Bh acc) hln hpos (show (acc.length+1)*48<=_ by omega);rw[<- hfl]at e2;have hql:q<h.length:=(G8.1 hq).1;have h0':((h.set q [])++[rowOf ba acc++ab (ba f)])[0]? = some [.int .i64 2,.hs q 0 acc.length 3 true]:=by
   rw[G3 (by simpa using h0l),Ii (by omega)];exact h0
  have e3:=qp (T:=T) (t:=25) rfl (k:=1) (v:=.hs h.length 0 (acc.length+1) 3 true) h0' rfl (show 1+1<=2 by omega) (by decide);refine⟨_,_,_,_,e1,e2,e3,.inr ⟨by simp,h.length,by omega,?_,?_⟩⟩
  ·rw[HZ (by simp),Ho];rfl
  ·rw[Ii (by omega),Hc (by simp),Ia,Ix];simp[rowOf]
theorem wg{h:Hp}{acc:List br}(A:zh h acc):∃v,bn T 27 (.hp 0 0) h= .ok v h/\aw 2 [] v=M.pure v/\(∃c1 c2,v= .agg [c1,c2])/\f7 6 h (.tup [v,.int .i64 0])= .tup [(Ty.mk 2 acc).av,.int .i64 0]:=by
 have e:(Ty.mk 2 acc).av= .agg [.int .i64 2,aC acc]:=rfl;rcases A with⟨rfl,h0⟩|⟨hne,q,hq0,h0,hq⟩
 ·exact⟨.agg [.int .i64 2,.hn],yn (T:=T) (t:=27) rfl rfl h0 (show 0+2<=2 by omega),sy 2,⟨_,_,rfl⟩,rfl⟩
 ·refine⟨.agg [.int .i64 2,.hs q 0 acc.length 3 true],yn (T:=T) (t:=27) rfl rfl h0 (show 0+2<=2 by omega),Gn 2 q acc.length,⟨_,_,rfl⟩,?_⟩;have hfr:=kL (f:=ba) A5 (fun x=>by rw[cC,fO]) (fun x g=>xB g x) (by decide) hq 5;rw[e,iw,<- hfr];rfl
def zY(e:Exp)(l:List Ty)(x1 x2:AV)(hlen:l.length<=1000000)(hn:e.names.length=l.length):∀(n i:Nat)(h:Hp),l.length-i=n->i<=l.length->zh h ((e.names.zip l).take i)->
  ∃v h',aj (L185_0 (ah pg) aj (K185_0 (ah pg) aj)) [.ip (ab e.av),.hp 0 0,.bool true,dR l,.int .i64 l.length,.int .i64 i,x1,x2] h= .ok v h'/\f7 6 h' v= .tup [(Ty.mk 2 (e.names.zip l)).av,.int .i64 0]:=by
 intro n
 induction n with
 |zero=>
  intro i h hi hle A;have h1:¬((i:Int)<(l.length:Int)):=by omega
  have h2:(e.names.zip l).take i=e.names.zip l:=Is (by rw[Ir];omega);rw[h2]at A;obtain⟨v,e1,e2,⟨c1,c2,rfl⟩,e3⟩:=wg A;refine⟨_,h,?_,e3⟩;rw[FL185_0];simp only[L185_0,K185_0,bc,bm,bT,aI,h1,I9,aZ,Hm,HI,g7,H3];rw[aF e1];simp only[e2,aR,mi,bc,bm];rfl
 | succ n ih=>
  intro i h hi hle A;have hlt:i<l.length:=by omega
  have hlt2:i<e.names.length:=by omega
  have h1:(i:Int)<(l.length:Int):=by omega
  have hw:IntKind.i64.wrap ((i:Int)+1)=(i:Int)+1:=aK (by omega);have hix:=mf (l:=l) (n:=(i:Int)) (by omega) h1;rw[GP,G2 l i hlt]at hix;have hix2:=qE (l:=e.names) (n:=(i:Int)) (by omega) (by omega);rw[GP,G2 e.names i hlt2]at hix2;have ht:(e.names.zip l).take (i+1)=(e.names.zip l).take i++[(e.names[i],l[i])]:=by
   rw[List.take_succ_eq_append_getElem (by rw[Ir];omega),List.getElem_zip]
  obtain⟨sv,rv,h2,h3,e1,e2,e3,A3⟩:=wi A (by rw[HR,Ir];omega) (e.names[i],l[i]);rw[<- ht]at A3;obtain⟨v,h',e4,e5⟩:=ih (i+1) h3 (by omega) (by omega) A3;refine⟨v,h',?_,e5⟩;have e4':aj (L185_0 (ah pg) aj (K185_0 (ah pg) aj)) [.ip (ab e.av),.hp 0 0,.bool true,dR l,.int .i64 l.length,.int .i64 ((i:Int)+1),x1,x2] h3= .ok v h':=e4;rw[<- e4'];generalize hcode:aj (L185_0 (ah pg) aj (K185_0 (ah pg) aj)) [.ip (ab e.av),.hp 0 0,.bool true,dR l,.int .i64 l.length,.int .i64 i,x1,x2] h=code;rw[FL185_0]at hcode;simp -implicitDefEqProofs only[L185_0,bc,bm,bT,aI,h1,HB,aZ,Hk,hix,bG,LD27,GY,G4,G1,Nat.reduceAdd,GL,Hb,Hn,cu,Av.dW,aR,fa1]at hcode;rw[aF e1]at hcode;simp -implicitDefEqProofs only[bJ,FA47_4,aI,HH,Hi,LD35,hix2,eD,LD9,LD27,GY,G4,G1,Nat.reduceAdd,GL,Hk,Hb,Hn,cu,pU,Fa]at hcode;rw[aF e2]at hcode;rw[aF e3]at hcode;simp -implicitDefEqProofs only[dL,aI,hw]at hcode;rw[<- hcode,bJ]
theorem dN(l:List Ty):ab (dR l)=[dR l]:=rfl
def t185(e:Exp)(l:List Ty)(hl:∀t∈l,dk t)(hlen:l.length<=1000000)(h11:e.op=11->l.length=3)(h14:e.op=14->l.length=1)(h13:e.op=13->e.names.length=l.length):ah pg 185 [e.av,dR l]=M.pure (match bO e l with|some t=>.tup [t.av,.int .i64 0]|none=>.tup [ty0.av,.int .i64 13]):=by
 have h0:=t230 0 l hlen;have h1:=t230 1 l hlen;rw[C185,pI,sQ];have fin:∀k:Int,f7 6 [[.int .i64 k,.hn]] (.tup [.agg [.int .i64 k,.hn],.int .i64 0])= .tup [(Ty.mk k []).av,.int .i64 0]:=fun k=>rfl;have fin0:∀h:Hp,f7 6 h (.tup [ty0.av,.int .i64 13])= .tup [ty0.av,.int .i64 13]:=fun h=>rfl;have fins:∀(h:Hp)(t:Ty),f7 6 h (.tup [.agg [.int .i64 t.kind,aC t.fields],.int .i64 0])= .tup [t.av,.int .i64 0]:=fun h t=>by
  have hc:Ap.Clean (AV.tup [t.av,.int .i64 0]):=fun g=>by simp[cl,c8]
  rw[cu];exact hc.frz 6 h
 by_cases o3:e.op=3\/e.op=4\/e.op=5\/e.op=16
 ·have ep:bO e l=if f9 0 l=true then some (.mk 0 [])else none:=by unfold bO;rw[GM o3]
  rw[ep];cases hb:f9 0 l with
  |true=>
   rw[hb]at h0;refine bC (v:=.tup [.agg [.int .i64 0,.hn],.int .i64 0]) (h':=[[.int .i64 0,.hn]]) ?_ (fin 0);rcases o3 with hop|hop|hop|hop<;>simp[S185,K185_0,K185_1,K185_2,sx,tR,B1,B2,su,B3,B4,fa0,hop,sy,sA,bI,dN,h0,h1]<;>rfl
  |false=>
   rw[hb]at h0;refine bC (v:=.tup [ty0.av,.int .i64 13]) (h':=[[.int .i64 0,.hn]]) ?_ (fin0 _);rcases o3 with hop|hop|hop|hop<;>simp[S185,K185_0,K185_1,K185_2,sx,tR,B1,B2,su,B3,B4,fa0,hop,sy,sA,bI,dN,h0,h1]<;>rfl
 ·by_cases hop:e.op=1
  ·have ep:bO e l=some (.mk 1 []):=by unfold bO;rw[if_neg o3,GM hop]
   rw[ep];refine bC (v:=.tup [.agg [.int .i64 1,.hn],.int .i64 0]) (h':=[[.int .i64 1,.hn]]) ?_ (fin 1);simp[S185,K185_0,K185_1,K185_2,sx,tR,B1,B2,su,B3,B4,fa0,hop,sy,sA,bI,dN,h0,h1,AZ];rfl
  ·by_cases hop6:e.op=6
   ·have hop:=hop6;have ep:bO e l=if f9 0 l=true then some (.mk 1 [])else none:=by unfold bO;rw[if_neg o3,if_neg (by omega),GM hop6]
    rw[ep];cases hb:f9 0 l with
    |true=>
     rw[hb]at h0;refine bC (v:=.tup [.agg [.int .i64 1,.hn],.int .i64 0]) (h':=[[.int .i64 1,.hn]]) ?_ (fin 1);simp[S185,K185_0,K185_1,K185_2,sx,tR,B1,B2,su,B3,B4,fa0,hop,sy,sA,bI,dN,h0,h1,AZ];rfl
    |false=>
     rw[hb]at h0;refine bC (v:=.tup [ty0.av,.int .i64 13]) (h':=[[.int .i64 1,.hn]]) ?_ (fin0 _);simp[S185,K185_0,K185_1,K185_2,sx,tR,B1,B2,su,B3,B4,fa0,hop,sy,sA,bI,dN,h0,h1,AZ];rfl
   ·by_cases hop7:e.op=7
    ·have hop:=hop7;have ep:bO e l=if(f9 0 l||f9 1 l)=true then some (.mk 1 [])else none:=by unfold bO;rw[if_neg o3,if_neg (by omega),if_neg hop6,GM hop7]
     rw[ep];cases hb:f9 0 l<;>cases hb1:f9 1 l<;>rw[hb]at h0<;>rw[hb1]at h1
     ·refine bC (v:=.tup [ty0.av,.int .i64 13]) (h':=[[.int .i64 1,.hn]]) ?_ (fin0 _);simp[S185,K185_0,K185_1,K185_2,sx,tR,B1,B2,su,B3,B4,fa0,hop,sy,sA,bI,dN,h0,h1,AZ];rfl
     all_goals
      refine bC (v:=.tup [.agg [.int .i64 1,.hn],.int .i64 0]) (h':=[[.int .i64 1,.hn]]) ?_ (fin 1);simp[S185,K185_0,K185_1,K185_2,sx,tR,B1,B2,su,B3,B4,fa0,hop,sy,sA,bI,dN,h0,h1,AZ];rfl
    ·by_cases o8:e.op=8\/e.op=9\/e.op=10
     ·have ep:bO e l=if f9 1 l=true then some (.mk 1 [])else none:=by unfold bO;rw[if_neg o3,if_neg (by omega),if_neg hop6,if_neg hop7,GM o8]
      rw[ep];cases hb:f9 1 l with
      |true=>
       rw[hb]at h1;refine bC (v:=.tup [.agg [.int .i64 1,.hn],.int .i64 0]) (h':=[[.int .i64 1,.hn]]) ?_ (fin 1);rcases o8 with hop|hop|hop<;>simp[S185,K185_0,K185_1,K185_2,sx,tR,B1,B2,su,B3,B4,fa0,hop,sy,sA,bI,dN,h0,h1,AZ]<;>rfl
      |false=>
       rw[hb]at h1;refine bC (v:=.tup [ty0.av,.int .i64 13]) (h':=[[.int .i64 1,.hn]]) ?_ (fin0 _);rcases o8 with hop|hop|hop<;>simp[S185,K185_0,K185_1,K185_2,sx,tR,B1,B2,su,B3,B4,fa0,hop,sy,sA,bI,dN,h0,h1,AZ]<;>rfl
     ·by_cases hop11:e.op=11
      ·have hop:=hop11;have ep:bO e l=(match nL l[1]! l[2]! with|some t=>if l[0]!.kind=1 then some t else none|none=>none):=by unfold bO;rw[if_neg o3,if_neg (by omega),if_neg hop6,if_neg hop7,if_neg o8,GM hop11];rfl
       rw[ep];obtain⟨a,b,c,rfl⟩:∃a b c,l=[a,b,c]:=by
        have:=h11 hop
        match l,this with
        |[a,b,c],_=>exact⟨a,b,c,rfl⟩
       have i0:ak T 54 (dR [a,b,c]) (.int .i64 0)=some (.ip (ab a.av)):=mf (l:=[a,b,c]) (n:=0) (by omega) (by simp);have i1:ak T 54 (dR [a,b,c]) (.int .i64 1)=some (.ip (ab b.av)):=mf (l:=[a,b,c]) (n:=1) (by omega) (by simp);have i2:ak T 54 (dR [a,b,c]) (.int .i64 2)=some (.ip (ab c.av)):=mf (l:=[a,b,c]) (n:=2) (by omega) (by simp);have hu:=t232 b c (hl b (by simp)) (hl c (by simp));show aG _=M.pure (match (match nL b c with|some t=>if a.kind=1 then some t else none|none=>none)with|some t=>.tup [t.av,.int .i64 0]|none=>.tup [ty0.av,.int .i64 13]);cases hub:nL b c with
       |none=>
        rw[hub]at hu;refine bC (v:=.tup [ty0.av,.int .i64 13]) (h':=[[.int .i64 0,.sl []]]) ?_ (fin0 _);simp[S185,K185_0,K185_1,K185_2,sx,tR,B1,B2,su,B3,B4,fa0,hop,sy,sA,bI,dN,h0,h1,i0,i1,i2,hu,hub,Dj,yZ];rfl
       | some u=>
        rw[hub]at hu;by_cases hk:a.kind=1
        ·dsimp only;rw[GM hk];have hk':(a.kind== 1)=true:=Hj.2 hk;refine bC (v:=.tup [.agg [.int .i64 u.kind,aC u.fields],.int .i64 0]) (h':=[[.int .i64 u.kind,aC u.fields]]) ?_ (fins _ u);simp[S185,K185_0,K185_1,K185_2,sx,tR,B1,B2,su,B3,B4,fa0,hop,sy,sA,bI,dN,h0,h1,i0,i1,i2,hu,hub,Dj,hk',cnt];rfl
        ·dsimp only;rw[if_neg hk];have hk':(a.kind== 1)=false:=GU.2 hk;refine bC (v:=.tup [ty0.av,.int .i64 13]) (h':=[[.int .i64 u.kind,aC u.fields]]) ?_ (fin0 _);simp[S185,K185_0,K185_1,K185_2,sx,tR,B1,B2,su,B3,B4,fa0,hop,sy,sA,bI,dN,h0,h1,i0,i1,i2,hu,hub,Dj,hk'];rfl
      ·by_cases hop13:e.op=13
       ·have hop:=hop13;have ep:bO e l=some (.mk 2 (e.names.zip l)):=by unfold bO;rw[if_neg o3,if_neg (by omega),if_neg hop6,if_neg hop7,if_neg o8,if_neg hop11,GM hop13]
        rw[ep];obtain⟨v,h',e1,e2⟩:=zY e l (.int .i64 0) (.sl []) hlen (h13 hop) l.length 0 [[.int .i64 2,.hn]] rfl (G9 _) (.inl ⟨rfl,rfl⟩);refine bC (v:=v) (h':=h') ?_ e2;have e1':aj (L185_0 (ah pg) aj (K185_0 (ah pg) aj)) [.ip (ab e.av),.hp 0 0,.bool true,dR l,.int .i64 l.length,.int .i64 0,.int .i64 0,.sl []] [[.int .i64 2,.hn]]= .ok v h':=e1;rw[bJ,hop]at e1';simp[S185,K185_1,K185_2,sx,B1,su,B3,fa0,hop,dN,AZ];exact e1'
       ·by_cases hop14:e.op=14
        ·have hop:=hop14;have ep:bO e l=(match aN (fun z=>z.1== e.s) l[0]!.fields with|some z=>some z.2|none=>none):=by unfold bO;rw[if_neg o3,if_neg (by omega),if_neg hop6,if_neg hop7,if_neg o8,if_neg hop11,if_neg hop13,GM hop14];rfl
         rw[ep];obtain⟨a,rfl⟩:∃a,l=[a]:=by
          have:=h14 hop
          match l,this with
          |[a],_=>exact⟨a,rfl⟩
         have i0:ak T 54 (dR [a]) (.int .i64 0)=some (.ip (ab a.av)):=mf (l:=[a]) (n:=0) (by omega) (by simp);have hk:=t181 a.fields (hl a (by simp)).len e.s;show aG _=M.pure (match (match aN (fun z=>z.1== e.s) a.fields with|some z=>some z.2|none=>none)with|some t=>.tup [t.av,.int .i64 0]|none=>.tup [ty0.av,.int .i64 13]);cases hz:aN (fun z:br=>z.1== e.s) a.fields with
         |none=>
          rw[hz]at hk;refine bC (v:=.tup [ty0.av,.int .i64 13]) (h':=[[.int .i64 0,.sl []]]) ?_ (fin0 _);simp[S185,K185_0,K185_1,K185_2,sx,tR,B1,B2,su,B3,B4,fa0,hop,sy,sA,bI,dN,h0,h1,i0,hk,Dj,yZ];rfl
         |some z=>
          rw[hz]at hk;refine bC (v:=.tup [.agg [.int .i64 z.2.kind,aC z.2.fields],.int .i64 0]) (h':=[[.int .i64 z.2.kind,aC z.2.fields]]) ?_ (fins _ z.2);simp[S185,K185_0,K185_1,K185_2,sx,tR,B1,B2,su,B3,B4,fa0,hop,sy,sA,bI,dN,h0,h1,i0,hk,Dj,cnt];rfl
        ·have ep:bO e l=some (.mk 0 []):=by unfold bO;rw[if_neg o3,if_neg (by omega),if_neg hop6,if_neg hop7,if_neg o8,if_neg hop11,if_neg hop13,if_neg hop14]
         rw[ep];refine bC (v:=.tup [.agg [.int .i64 0,.hn],.int .i64 0]) (h':=[[.int .i64 0,.hn]]) ?_ (fin 0);have n3:(e.op== 3)=false:=GU.2 (by omega);have n4:(e.op== 4)=false:=GU.2 (by omega);have n5:(e.op== 5)=false:=GU.2 (by omega);have n16:(e.op== 16)=false:=GU.2 (by omega);have n1:(e.op== 1)=false:=GU.2 (by omega);have n6:(e.op== 6)=false:=GU.2 (by omega);have n7:(e.op== 7)=false:=GU.2 (by omega);have n8:(e.op== 8)=false:=GU.2 (by omega);have n9:(e.op== 9)=false:=GU.2 (by omega);have n10:(e.op== 10)=false:=GU.2 (by omega);have n11:(e.op== 11)=false:=GU.2 (by omega);have n13:(e.op== 13)=false:=GU.2 (by omega);have n14:(e.op== 14)=false:=GU.2 (by omega);simp[S185,K185_0,K185_1,K185_2,sx,B1,su,B4,sy,n3,n4,n5,n16,n1,n6,n7,n8,n9,n10,n11,n13,n14];rfl
def yH(f:AV)(F:Fun->Bool)(l:List Fun)(hb:l.length<=4611686018427387904)(hf:∀x∈l,bI (ah pg) f [Fun.av x]=M.pure (.bool (F x))):∀(n:Nat)(i:Int),l.length-i.toNat=n->0<=i->i<=l.length->
  aj (L253_0 (ah pg) aj) [fQ l,f,.int .i64 l.length,.int .i64 i]=M.pure (.int .i64 (bW F (l.drop i.toNat) i)):=by
 intro n
 induction n with
 |zero=>
  intro i hn hi hl;rw[FL253_0];simp only[L253_0];have h1:¬(i<(l.length:Int)):=by omega
  have h2:l.drop i.toNat=[]:=G5 (by omega);simp[h1,h2,bW]
 |succ n ih=>
  intro i hn hi hl;have h1:i<(l.length:Int):=by omega
  have hlt:i.toNat<l.length:=by omega
  have h2:bW F (l.drop i.toNat) i=if F l[i.toNat]=true then i else bW F (l.drop (i.toNat+1)) (i+1):=by rw[GZ hlt];rfl
  have h3:=hf l[i.toNat] (GQ hlt);have h4:=ih (i+1) (by omega) (by omega) (by omega);rw[show (i+1).toNat=i.toNat+1 by omega]at h4;rw[FL253_0];simp only[L253_0];simp (disch:=omega) [h1,dM,vY,h3,h2];cases F l[i.toNat]
  ·simpa using h4
  ·simp
def F8(f:AV)(F:Fun->Bool)(l:List Fun)(hb:l.length<=4611686018427387904)(hc:∀g,cl g f=f)(hf:∀x∈l,bI (ah pg) f [Fun.av x]=M.pure (.bool (F x))):ah pg 253 [fQ l,f]=M.pure (.int .i64 (bW F l 0)):=by
 rw[C253];simp[S253,hc,yH f F l hb hf l.length 0 rfl (by omega) (by omega)]
def yG(s:bA)(l:List bA)(hb:l.length<=4611686018427387904):∀(n:Nat)(i:Int),l.length-i.toNat=n->0<=i->i<=l.length->
  aj (L238_0 (ah pg) aj) [strs l,.str s,.int .i64 l.length,.int .i64 i]=M.pure (.int .i64 (bW (fun x=>s== x) (l.drop i.toNat) i)):=by
 intro n
 induction n with
 |zero=>
  intro i hn hi hl;rw[FL238_0];simp only[L238_0];have h1:¬(i<(l.length:Int)):=by omega
  have h2:l.drop i.toNat=[]:=G5 (by omega);simp[h1,h2,bW]
 | succ n ih=>
  intro i hn hi hl;have h1:i<(l.length:Int):=by omega
  have hlt:i.toNat<l.length:=by omega
  have h2:bW (fun x=>s== x) (l.drop i.toNat) i=if(s== l[i.toNat])=true then i else bW (fun x=>s== x) (l.drop (i.toNat+1)) (i+1):=by rw[GZ hlt];rfl
  have h4:=ih (i+1) (by omega) (by omega) (by omega);rw[show (i+1).toNat=i.toNat+1 by omega]at h4;rw[FL238_0,h2];simp only[L238_0];have hix:=qE (l:=l) (n:=i) hi h1;rw[G2 l i.toNat hlt]at hix;generalize l[i.toNat]=x at hix |-;cases hx:s== x
  ·have hw:IntKind.i64.wrap (i+1)=i+1:=dM (by omega) (by omega);simp only[bc,bm,bT,aI,h1,HB,aZ,Hk,hix,eD,LD9,md,hx,Hm,HI,dL,hw,h4]
  ·simp only[bc,bm,bT,aI,h1,HB,aZ,Hk,hix,eD,LD9,md,hx]
def F7(s:bA)(l:List bA)(hb:l.length<=4611686018427387904):ah pg 238 [strs l,.str s]=M.pure (.int .i64 (bW (fun x=>s== x) l 0)):=by
 have h:=yG s l hb l.length 0 rfl (by omega) (by omega);rw[C238];have h':aj (L238_0 (ah pg) aj) [strs l,.str s,.int .i64 l.length,.int .i64 0]=M.pure (.int .i64 (bW (fun x=>s== x) l 0)):=h;simp only[S238,tV,mB,wa,aI,h',mV]
def Gb(s:bA)(l:List bA)(hb:l.length<=4611686018427387904):ah pg 256 [strs l,.str s]=M.pure (.bool (l.contains s)):=by
 rw[C256];have e:l.any (fun x=>s== x)=l.contains s:=by rw[List.contains_eq_any_beq]
 simp only[S256,tV,mB,F7 s l hb,aR,pE,aI,kN,e,cY]
def aT(m:Ap.Mod)(mp:AV)(n:Int):List AV:=[.str m.name,strs m.uses,aC m.vars,cj m.init,fQ m.funcs,.bool m.moves,aC m.old,cj m.forward,cj m.back,mp,.int .i64 n]
def bM(fs:List Face):List AV:=fs.map fun f=>.tup [.str f.module,f.av]
def Gc(h:Hp)(mp:AV)(fs:List Face):Prop:=(mp= .nilm/\fs=[])\/∃l,mp= .mp l/\h[l]? = some [.tup (bM fs)]
structure JR (h:Hp) (q:Nat) (m:Ap.Mod) (mp:AV) (fs:List Face) (n:Int):Prop where
 row:h[q]? = some (aT m mp n)
 map:Gc h mp fs
 ne:mp≠.mp q
def JR.set{h:Hp}{q:Nat}{m:Ap.Mod}{mp:AV}{fs:List Face}{n:Int}(R:JR h q m mp fs n)(n':Int):JR (h.set q (aT m mp n')) q m mp fs n':=by
 have hl:=(G8.1 R.row).1;refine⟨HZ hl,?_,R.ne⟩;rcases R.map with h1|⟨l,h1,h2⟩
 ·exact .inl h1
 ·refine .inr ⟨l,h1,?_⟩;rw[Ii (fun e=>R.ne (by rw[h1,e]))];exact h2
def JR.same{h:Hp}{q:Nat}{m:Ap.Mod}{mp:AV}{fs:List Face}{n:Int}(R:JR h q m mp fs n):h.set q (aT m mp n)=h:=by
 obtain⟨hl,e⟩:=G8.1 R.row;rw[<- e];exact IE hl
def Gv{h:Hp}{q:Nat}{m:Ap.Mod}{mp:AV}(a b:Int):(h.set q (aT m mp a)).set q (aT m mp b)=h.set q (aT m mp b):=List.set_set ..
def JR.vars{h:Hp}{q:Nat}{m:Ap.Mod}{mp:AV}{fs:List Face}{n:Int}(R:JR h q m mp fs n):bn T 25 (.hp q 2) h= .ok (aC m.vars) h:=jw rfl rfl R.row rfl
def JR.funcs{h:Hp}{q:Nat}{m:Ap.Mod}{mp:AV}{fs:List Face}{n:Int}(R:JR h q m mp fs n):bn T 37 (.hp q 4) h= .ok (fQ m.funcs) h:=jw rfl rfl R.row rfl
def JR.uses{h:Hp}{q:Nat}{m:Ap.Mod}{mp:AV}{fs:List Face}{n:Int}(R:JR h q m mp fs n):bn T 35 (.hp q 1) h= .ok (strs m.uses) h:=jw rfl rfl R.row rfl
def JR.mp{h:Hp}{q:Nat}{m:Ap.Mod}{mp:AV}{fs:List Face}{n:Int}(R:JR h q m mp fs n):bn T 139 (.hp q 9) h= .ok mp h:=jw rfl rfl R.row rfl
def JR.eff{h:Hp}{q:Nat}{m:Ap.Mod}{mp:AV}{fs:List Face}{n:Int}(R:JR h q m mp fs n):bn T 3 (.hp q 10) h= .ok (.int .i64 n) h:=jw rfl rfl R.row rfl
def JR.put{h:Hp}{q:Nat}{m:Ap.Mod}{mp:AV}{fs:List Face}{n:Int}(R:JR h q m mp fs n)(n':Int):bH T 3 (.hp q 10) (.int .i64 n') h= .ok (.tup []) (h.set q (aT m mp n')):=
 qp (T:=T) (t:=3) rfl (v:=.int .i64 n') R.row rfl (show 10+1<=11 by omega) (by decide)
theorem Gp(a b:bA):uY T 20 9 (.str a) (.str b)=some (a== b):=rfl
theorem mL(s:bA):(fs:List Face)->(i:Nat)->(fs.find? (fun f=>f.module== s)=none/\dJ T 9 (.str s) (bM fs) i=some none)\/∃f j k,fs.find? (fun f=>f.module== s)=some f/\dJ T 9 (.str s) (bM fs) i=some (some (j,k,f.av))
 |[],i=>.inl ⟨rfl,rfl⟩
 |x:: fs,i=>by
  show (_/\dJ T 9 (.str s) (.tup [.str x.module,x.av]:: bM fs) i=_)\/∃f j k,_/\dJ T 9 (.str s) (.tup [.str x.module,x.av]:: bM fs) i=_;unfold dJ;rw[Gp,List.find?_cons];have hc:(s== x.module)=(x.module== s):=Ib.2 ⟨fun h=>Hj.2 (Hj.1 h).symm,fun h=>Hj.2 (Hj.1 h).symm⟩;rw[hc];cases hx:x.module== s with
  |true=>exact .inr ⟨x,i,.str x.module,rfl,rfl⟩
  |false=>exact mL s fs (i+1)
def kV{h:Hp}{mp:AV}{fs:List Face}(M:Gc h mp fs)(s:bA):dF T 139 mp (.str s) true h= .ok (.tup [((fs.find? fun f=>f.module== s).getD jV).av,.bool (fs.find? fun f=>f.module== s).isSome]) h:=by
 have e:∀es:List AV,lI T 139 es (.str s) true=(match dJ T 9 (.str s) es 0 with
   |some (some (_,_,v))=>some (.tup [v,.bool true])
   |some none=>some (.tup [jV.av,.bool false])
   |none=>none):=fun es=>rfl
 rcases M with⟨rfl,rfl⟩|⟨l,rfl,hl⟩
 ·unfold dF iu;simp only;rw[e];rfl
 ·unfold dF iu;simp only[hl];rw[e];rcases mL s fs 0 with⟨h1,h2⟩|⟨f,j,k,h1,h2⟩
  ·rw[h1,h2];rfl
  ·rw[h1,h2];rfl
def F9(f:Fun)(e:Exp):ah pg 254 [f.av,.ip (ab e.av)]=M.pure (.bool (f.name== e.s)):=by
 rw[C254];simp[S254,cl,c8]
def Ga(f:Sig)(e:Exp):ah pg 255 [f.av,.ip (ab e.av)]=M.pure (.bool (f.name== e.s)):=by
 rw[C255];simp[S255,cl,c8]
structure CxOk (m:Ap.Mod) (fs:List Face):Prop where
 vlen:m.vars.length<=1000000
 vars:∀z∈m.vars,a8 z.2=true
 flen:m.funcs.length<=1000000
 ulen:m.uses.length<=1000000
 plen:∀f∈m.funcs,f.params.length<=1000000
 pars:∀f∈m.funcs,∀z∈f.params,a8 z.2=true
 res:∀f∈m.funcs,a8 f.result=true
 slen:∀f∈fs,f.funcs.length<=140737488355328
 splen:∀f∈fs,∀s∈f.funcs,s.params.length<=140737488355328
 spars:∀f∈fs,∀s∈f.funcs,∀t∈s.params,a8 t=true
 sres:∀f∈fs,∀s∈f.funcs,a8 s.result=true
def vP:Sig:=⟨[],[],ty0,0⟩
def oh(l:List br)(hl:l.length<=1000000)(x3 x4 x5 x6 x7:AV)(k:Int)(fs:List br)(e:Int):∀(n i:Nat)(acc:List Ty),l.length-i=n->i<=l.length->acc.length<=i->
  aj (L229_0 (ah pg) aj) [aC l,.int .i64 l.length,.int .i64 i,x3,x4,x5,x6,x7,.str [],dR acc,.int .i64 k,aC fs,.int .i64 e]=M.pure (.tup [(Sig.mk [] (acc++(l.drop i).map (·.2)) (.mk k fs) e).av,.bool true]):=by
 intro n
 induction n with
 |zero=>
  intro i acc hn hi ha;have h1:¬((i:Int)<(l.length:Int)):=by omega
  have h2:l.drop i=[]:=G5 (by omega);have h3:aw 5 [] (.agg [.str [],dR acc,.int .i64 k,aC fs,.int .i64 e])=M.pure (.agg [.str [],dR acc,.int .i64 k,aC fs,.int .i64 e]):=aY rfl;rw[FL229_0,h2];simp[L229_0,h1,h3];rfl
 |succ n ih=>
  intro i acc hn hi ha;have hlt:i<l.length:=by omega
  have h1:(i:Int)<(l.length:Int):=by omega
  have h2:l.drop i=l[i]:: l.drop (i+1):=GZ hlt;have hw:IntKind.i64.wrap ((i:Int)+1)=(i:Int)+1:=aK (by omega);have hix:=lX (l:=l) (n:=(i:Int)) (by omega) h1;rw[GP,G2 l i hlt]at hix;have ih2:∀acc:List Ty,acc.length<=i+1->aj (L229_0 (ah pg) aj) [aC l,.int .i64 l.length,.int .i64 ((i:Int)+1),x3,x4,x5,x6,x7,.str [],dR acc,.int .i64 k,aC fs,.int .i64 e]=M.pure (.tup [(Sig.mk [] (acc++(l.drop (i+1)).map (·.2)) (.mk k fs) e).av,.bool true]):=fun acc ha=>ih (i+1) acc (by omega) (by omega) ha;have ih':=ih2 (acc++[l[i].2]) (by simp;omega);have hap:=Di (a:=acc) (b:=[l[i].2]) (by simp;omega);rw[FL229_0,h2];generalize l[i]=f at hix hap ih' |-;have hsl:bg T 54 1 [(0,f.2.av)]=some (dR [f.2]):=by cases f.2;rfl
  have hc1:∀l:List Ty,bZ (dR l)=M.pure (dR l):=fun l=>rfl;simp[L229_0,h1,hix,hsl,hap,hc1,hw,ih']
theorem F6{h:Hp}{q:Nat}{m:Ap.Mod}{mp:AV}{fs:List Face}{n:Int}(R:JR h q m mp fs n)(K:CxOk m fs)(e:Exp):∃r,ah pg 229 [.hp q 0,e.av] h= .ok r h/\(match ct (dj m fs) e with
  |none=>r= .tup [vP.av,.bool false]
  |some s=>∃nm,r= .tup [(Sig.mk nm s.1 s.2.1 s.2.2).av,.bool true]):=by
 have bs0:be T false 56 []=some vP.av:=rfl;have bs1:∀(k:Int)(x:List br)(f:Int),be T true 56 [(2,(Ty.mk k x).av),(3,.int .i64 f)]=some (.agg [.str [],.hn,.int .i64 k,aC x,.int .i64 f]):=fun k x f=>rfl;have bs2:∀(k:Int)(x:List br)(f:Int),aw 5 [1] (.agg [.str [],.hn,.int .i64 k,aC x,.int .i64 f])=M.pure (.agg [.str [],.hn,.int .i64 k,aC x,.int .i64 f]):=fun k x f=>rfl;have nc:cd (.hp q 0)=some (.hp q 0):=rfl;rw[C229];by_cases hm:e.m=[]
 ·have hm':(e.m== [])=true:=Hj.2 hm;have h1:=F8 (.fn (.func 254) [] [.ip (ab e.av)]) (fun f=>f.name== e.s) m.funcs (by have:=K.flen;omega) (fun g=>by simp[cl,c8]) (fun f _=>F9 f e);simp only[bJ]at h1;have l1:∀f:AV->M AV,ae (bn T 37 (.hp q 4)) f h=f (fQ m.funcs) h:=fun f=>aF R.funcs f;unfold ct;rw[GM hm];simp only[dj];rcases gQ (fun f:Fun=>f.name== e.s) m.funcs 0 with⟨h2,h3⟩|⟨k,f,h2,h3,h4⟩
  ·rw[h3]at h1;rw[h2];refine⟨_,?_,rfl⟩;simp[S229,hm',l1,h1,bs0];rfl
  ·rw[Int.zero_add]at h4;rw[h4]at h1;rw[h2];have hk:=(G8.1 h3).1;have hix:=vY (l:=m.funcs) (n:=(k:Int)) (by omega) (by omega);rw[GP,H6,h3,Js]at hix;have hneg:¬((k:Int)<0):=by omega
   have hmem:=HM h3;have hlp:=oh f.params (K.plen f hmem) (.str []) (.sl []) (.int .i64 0) (.sl []) (.int .i64 0) f.result.kind f.result.fields f.effects f.params.length 0 [] rfl (G9 _) (G9 _);have hlp':aj (L229_0 (ah pg) aj) [aC f.params,.int .i64 f.params.length,.int .i64 0,.str [],.sl [],.int .i64 0,.sl [],.int .i64 0,.str [],.sl [],.int .i64 f.result.kind,aC f.result.fields,.int .i64 f.effects]=M.pure (.tup [(Sig.mk [] (f.params.map (·.2)) f.result f.effects).av,.bool true]):=by
    rw[Ty.eta]at hlp;exact hlp
   have bs1':be T true 56 [(2,f.result.av),(3,.int .i64 f.effects)]=some (.agg [.str [],.hn,.int .i64 f.result.kind,aC f.result.fields,.int .i64 f.effects]):=by
    rw[<- Ty.eta f.result];rfl
   refine⟨_,?_,[],rfl⟩;simp[S229,hm',l1,h1,hneg,hix,bs1',bs2,hlp'];rfl
 ·have hm':(e.m== [])=false:=GU.2 hm;have l1:∀f:AV->M AV,ae (bn T 139 (.hp q 9)) f h=f mp h:=fun f=>aF R.mp f;have l2:∀f:AV->M AV,ae (dF T 139 mp (.str e.m) true) f h=f (.tup [((fs.find? fun f=>f.module== e.m).getD jV).av,.bool (fs.find? fun f=>f.module== e.m).isSome]) h:=fun f=>aF (kV R.map e.m) f;have l4:∀(g:AV->M (List AV))(f:List AV->M AV),ae (ae (bn T 35 (.hp q 1)) g) f h=ae (g (strs m.uses)) f h:=fun g f=>by simp only[ae,R.uses]
  have cmf:∀f:Face,aH 2 f.av=M.pure f.av:=fun f=>by rw[bQ (kY f),c6,gm]
  have hct:=Gb e.m m.uses (by have:=K.ulen;omega);cases hf:fs.find? (fun f=>f.module== e.m)with
  | none=>
   rw[hf]at l2;have hix:=t101 (.fn (.func 255) [] [.ip (ab e.av)]) (fun f=>f.name== e.s) jV.funcs (by simp[jV]) (fun g=>by simp[cl,c8]) (fun f hf=>by cases hf);have hix':ah pg 101 [sigs jV.funcs,.fn (.func 255) [] [.ip [.int .i64 e.op,.int .i64 e.n,.str e.s,.str e.m,strs e.names,cj e.args]]]=M.pure (.int .i64 (-1)):=by
    have:=hix
    simp only[bJ]at this;exact this
   have z1:aH 2 jV.av=M.pure (.agg [.str [],.sl []]):=rfl;have ec:ct (dj m fs) e=none:=by simp[ct,dj,hm,hf]
   rw[ec];refine⟨_,?_,rfl⟩;simp[S229,hm',l1,l2,z1,hix',bs0];rfl
  | some f=>
   rw[hf]at l2;have hfm:=HS hf;have h1:=t101 (.fn (.func 255) [] [.ip (ab e.av)]) (fun f=>f.name== e.s) f.funcs (by have:=K.slen f hfm;omega) (fun g=>by simp[cl,c8]) (fun f _=>Ga f e);simp only[bJ]at h1;rcases gQ (fun f:Sig=>f.name== e.s) f.funcs 0 with⟨h2,h3⟩|⟨k,s,h2,h3,h4⟩
   ·rw[h3]at h1;have ec:ct (dj m fs) e=none:=by simp[ct,dj,hm,hf,h2]
    rw[ec];refine⟨_,?_,rfl⟩;simp[S229,hm',l1,l2,cmf,h1,bs0];rfl
   ·rw[Int.zero_add]at h4;rw[h4]at h1;have hk:=(G8.1 h3).1;have hix:=qD (l:=f.funcs) (n:=(k:Int)) (by omega) (by omega);rw[GP,H6,h3,Js]at hix;have hneg:¬((k:Int)<0):=by omega
    by_cases hu:e.m∈m.uses
    case neg=>
     have hu':m.uses.contains e.m=false:=by rw[<- Im,IH];exact hu
     rw[hu']at hct;have ec:ct (dj m fs) e=none:=by simp[ct,dj,hm,hf,h2,hu]
     rw[ec];refine⟨_,?_,rfl⟩;simp[S229,hm',l1,l2,l4,cmf,h1,hneg,hct,bs0];rfl
    case pos=>
     rw[IH.2 hu]at hct;have ec:ct (dj m fs) e=some (s.params,s.result,s.effects):=by simp[ct,dj,hm,hf,h2,hu]
     rw[ec];have sA:aw 5 [] s.av=M.pure s.av:=gH s;refine⟨_,?_,s.name,rfl⟩;simp[S229,hm',l1,l2,l4,cmf,h1,hneg,hct,hix,sA];rfl
theorem xS(k:Int)(es:List Exp):be T false 47 [(0,.int .i64 k),(5,cj es)]=some (Exp.mk k 0 [] [] [] es).av:=rfl
def pL(e:Exp):aH 6 e.av=M.pure e.av:=by rw[bQ (iF _),bJ,dK]
def xG(e:Exp):aw 6 [] e.av=M.pure e.av:=by rw[aY (iF _),bJ,dK]
def f6(o n:Int)(s m:bA)(ns:List bA)(es:List Exp):AV.agg [.int .i64 o,.int .i64 n,.str s,.str m,strs ns,cj es]=(Exp.mk o n s m ns es).av:=dK (Exp.mk o n s m ns es)
def Gd(o n:Int)(s m:bA)(es:List Exp):AV.agg [.int .i64 o,.int .i64 n,.str s,.str m,.sl [],cj es]=(Exp.mk o n s m [] es).av:=dK (Exp.mk o n s m [] es)
def t8(e:Exp)(n:Int):aG (M.pure (.tup [e.av,.int .i64 n]))=M.pure (.tup [e.av,.int .i64 n]):=bL fun g=>by simp[cl,c8]
def bP(o n:Int)(s m:bA)(ns:List bA)(es:List Exp):ab (Exp.mk o n s m ns es).av=[.int .i64 o,.int .i64 n,.str s,.str m,strs ns,cj es]:=bJ _
def t226(e:Exp):ah pg 226 [e.av]=M.pure (.tup [(eg e).1.av,.int .i64 (eg e).2]):=by
 have hc1:∀n:Int,bZ (.int .i64 n)=M.pure (.int .i64 n):=fun n=>rfl;have hc2:∀s:bA,bZ (.str s)=M.pure (.str s):=fun s=>rfl;have hc3:∀s:List bA,bZ (strs s)=M.pure (strs s):=fun s=>rfl;rw[C226];obtain⟨o,n,s,m,ns,es⟩:=e;have ho:o=0\/o=1\/o=2\/o=17\/o=18\/o=14\/o=16\/o=10\/o=12\/o=11\/o=13\/o=15\/(o≠0/\o≠1/\o≠2/\o≠17/\o≠18/\o≠14/\o≠16/\o≠10/\o≠12/\o≠11/\o≠13/\o≠15):=by omega
 rcases ho with rfl|rfl|rfl|rfl|rfl|rfl|rfl|rfl|rfl|rfl|rfl|rfl|⟨h0,h1,h2,h17,h18,h14,h16,h10,h12,h11,h13,h15⟩
 all_goals first
  | (simp[S226,K226_0,K226_1,K226_2,xS,xG,bP,f6,Gd,hc1,hc2,hc3,eg,Exp.op,Exp.n,Exp.s,Exp.m,Exp.names,Exp.args]
     exact t8 _ _)
  | (simp[S226,K226_0,K226_1,K226_2,xS,xG,bP,f6,Gd,hc1,hc2,hc3,eg,Exp.op,Exp.n,Exp.s,Exp.m,Exp.names,Exp.args,h0,h1,h2,h17,h18,h14,h16,h10,h12,h11,h13,h15]
     exact t8 _ _)
theorem yv(e:Exp)(he:e.Lim):aj (L227_0 (ah pg) aj) [.ip (ab e.av),strs e.names,.int .i64 e.names.length,.int .i64 0]=M.pure (.bool (qc e.names)):=by
 have hlen:=he.names
 have hloop:∀(m i:Nat),e.names.length-i=m->i<=e.names.length->aj (L227_0 (ah pg) aj) [.ip (ab e.av),strs e.names,.int .i64 e.names.length,.int .i64 i]=M.pure (.bool ((List.range' i (e.names.length-i)).all (fun k=>bX e.names[k]! && (decide (k=0)||dm e.names[k-1]! e.names[k]!))&&decide (e.names.length<=8))):=by
  intro m
  induction m with
  |zero=>
   intro i hm hi;rw[FL227_0,hm];have h1:¬((i:Int)<(e.names.length:Int)):=by omega
   have h2:decide ((e.names.length:Int)<=8)=decide (e.names.length<=8):=by rw[H1];omega
   simp[L227_0,h1,h2]
  | succ m ih=>
   intro i hm hi;have hlt:i<e.names.length:=by omega
   have h1:(i:Int)<(e.names.length:Int):=by omega
   have ih':=ih (i+1) (by omega) (by omega);have er:List.range' i (e.names.length-i)=i:: List.range' (i+1) (e.names.length-(i+1)):=by
    rw[show e.names.length-i=(e.names.length-(i+1))+1 by omega,I4]
   have hix:=qE (l:=e.names) (n:=(i:Int)) (by omega) h1;rw[GP]at hix;have hw:IntKind.i64.wrap ((i:Int)+1)=((i+1:Nat):Int):=aK (by omega);have h2:=t76 e.names[i]!;rw[FL227_0,er,HK];generalize e.names[i]! = s at hix h2 |-;cases hn:bX s with
   |false=>
    rw[hn]at h2;simp[L227_0,h1,hix,h2]
   | true=>
    rw[hn]at h2;rcases Hx i with hk0|hk0
    ·subst hk0;have hix0:ak T 35 (strs e.names) (.int .i64 0)=some (.ip (ab (.str s))):=hix;have hw0:IntKind.i64.wrap 1=1:=rfl;have hlt':0<e.names.length:=hlt;simpa [L227_0,h1,hlt',hix0,h2,hw0]using ih'
    ·have hp:IntKind.i64.wrap ((i:Int)-1)=((i-1:Nat):Int):=by
      rw[dM (by omega) (by omega)];omega
     have h4:((i-1:Nat):Int)<(e.names.length:Int):=by omega
     have hix2:=qE (l:=e.names) (n:=((i-1:Nat):Int)) (by omega) h4;rw[GP]at hix2;generalize e.names[i-1]! = g at hix2 |-;have hk2:0<(i:Int):=by omega
     have hk3:¬i=0:=by omega
     have hle:am T .leq 9 (.str s) (.str g)=some (.bool (!(dm g s))):=by
      have:am T .leq 9 (.str s) (.str g)=some (.bool (aV s g||s== g)):=rfl;rw[this];simp[dm]
     cases hs:dm g s with
     |false=>
      rw[hs]at hle;simp[L227_0,h1,hix,h2,hp,hix2,hk0,hk2,hk3,hle,-uD]
     |true=>
      rw[hs]at hle;simpa [L227_0,h1,hix,h2,hp,hix2,hk0,hk2,hk3,hle,hw,-uD]using ih'
 have h:=hloop e.names.length 0 rfl (G9 _);rw[IZ,pz]at h;exact h
theorem t227(e:Exp)(he:e.Lim):ah pg 227 [e.av]=M.pure (.bool (dY e)):=by
 rw[C227];have hs:=t76 e.s;have hm:=t76 e.m;have hbn:=yv e he;obtain⟨o,n,s,m,ns,es⟩:=e;simp only[bP,Exp.names]at hbn;simp only[Exp.s,Exp.m]at hs hm;have ho:o=0\/o=1\/o=2\/o=17\/o=18\/o=14\/o=16\/o=12\/o=13\/o=15\/(o≠0/\o≠1/\o≠2/\o≠17/\o≠18/\o≠14/\o≠16/\o≠12/\o≠13/\o≠15):=by omega
 rcases ho with rfl|rfl|rfl|rfl|rfl|rfl|rfl|rfl|rfl|rfl|⟨h0,h1,h2,h17,h18,h14,h16,h12,h13,h15⟩
 ·simp[S227,K227_0,bP,dY,Exp.op,Exp.n,Exp.s,Exp.m,Exp.names,Exp.args];rfl
 ·simp[S227,K227_0,bP,dY,Exp.op,Exp.n,Exp.s,Exp.m,Exp.names,Exp.args]
 ·simp[S227,K227_0,bP,dY,Exp.op,Exp.n,Exp.s,Exp.m,Exp.names,Exp.args,hs]
 ·simp[S227,K227_0,bP,dY,Exp.op,Exp.n,Exp.s,Exp.m,Exp.names,Exp.args,hs]
 ·simp[S227,K227_0,bP,dY,Exp.op,Exp.n,Exp.s,Exp.m,Exp.names,Exp.args,hs]
 ·simp[S227,K227_0,bP,dY,Exp.op,Exp.n,Exp.s,Exp.m,Exp.names,Exp.args,hs]
 ·simp[S227,K227_0,bP,dY,Exp.op,Exp.n,Exp.s,Exp.m,Exp.names,Exp.args]
 ·simp[S227,K227_0,bP,dY,Exp.op,Exp.n,Exp.s,Exp.m,Exp.names,Exp.args,hs]
 ·simp[S227,K227_0,bP,dY,Exp.op,Exp.n,Exp.s,Exp.m,Exp.names,Exp.args,hbn]
 ·have e6:am T .leq 3 (.int .i64 es.length) (.int .i64 6)=some (.bool (decide (es.length<=6))):=by
   have:am T .leq 3 (.int .i64 es.length) (.int .i64 6)=some (.bool (decide ((es.length:Int)<=6))):=rfl;rw[this];exact GR (fun b=>some (AV.bool b)) (H1.2 (by omega))
  cases ha:bX s with
  |false=>rw[ha]at hs;simp[S227,K227_0,bP,dY,Exp.op,Exp.n,Exp.s,Exp.m,Exp.names,Exp.args,hs,ha]
  | true=>
   rw[ha]at hs;by_cases hme:m=[]
   ·simp[S227,K227_0,bP,dY,Exp.op,Exp.n,Exp.s,Exp.m,Exp.names,Exp.args,hs,ha,hme,e6,-jP];try rfl
   ·cases hb:bX m with
    |false=>rw[hb]at hm;simp[S227,K227_0,bP,dY,Exp.op,Exp.n,Exp.s,Exp.m,Exp.names,Exp.args,hs,hm,ha,hb,hme,e6,-jP];try rfl
    |true=>rw[hb]at hm;simp[S227,K227_0,bP,dY,Exp.op,Exp.n,Exp.s,Exp.m,Exp.names,Exp.args,hs,hm,ha,hb,hme,e6,-jP];try rfl
 ·simp[S227,K227_0,bP,dY,Exp.op,Exp.n,Exp.s,Exp.m,Exp.names,Exp.args,h0,h1,h2,h17,h18,h14,h16,h12,h13,h15]
theorem t178:∀(d:Nat),d<=100->∀(e:Exp),e.Lim->ah pg 178 [e.av,.int .i64 d]=M.pure (.bool (cm d e))
 |0,_,e,_=>by
  rw[C178];simp[S178,cm]
 | d+1,hd,e,he=>by
  have hlen:=he.len;have hd1:IntKind.i64.wrap (((d+1:Nat):Int)-1)=(d:Int):=pp (by omega);have hloop:∀(m i:Nat),e.args.length-i=m->i<=e.args.length->aj (L178_0 (ah pg) aj) [.int .i64 ((d+1:Nat):Int),cj e.args,.int .i64 e.args.length,.int .i64 i]=M.pure (.bool ((e.args.drop i).all (cm d))):=by
   intro m
   induction m with
   |zero=>
    intro i hm hi;have h1:¬((i:Int)<(e.args.length:Int)):=by omega
    have h2:e.args.drop i=[]:=G5 (by omega);rw[FL178_0,h2];simp[L178_0,h1]
   |succ m ih=>
    intro i hm hi;have hlt:i<e.args.length:=by omega
    have h1:(i:Int)<(e.args.length:Int):=by omega
    have h2:e.args.drop i=e.args[i]:: e.args.drop (i+1):=GZ hlt;have hix:=lY (l:=e.args) (n:=(i:Int)) (by omega) h1;rw[GP,G2 e.args i hlt]at hix;have hw:IntKind.i64.wrap ((i:Int)+1)=((i+1:Nat):Int):=aK (by omega);have hb:=t178 d (by omega) e.args[i] (he.kid (GQ hlt));have ih':=ih (i+1) (by omega) (by omega);rw[h2,HK,FL178_0];generalize e.args[i]=x at hix hb |-;cases hr:cm d x<;>rw[hr]at hb <;>
    simp only[L178_0,bc,bm,bT,aI,h1,HB,aZ,Hk,hix,bJ,LD47,GY,G4,G1,Nat.reduceAdd,GL,Hb,Hn,dK,pL,aR,pG,hd1,hb,g7,I2,H3,Hm,HI,dL,hw,ih',I1,HJ]
  have hx':aj (L178_0 (ah pg) aj) [.int .i64 ((d:Int)+1),cj e.args,.int .i64 e.args.length,.int .i64 0]=M.pure (.bool (e.args.all (cm d))):=hloop e.args.length 0 rfl (G9 _);have hc:=t226 e;have hl:=t227 e he;rw[C178,f8];unfold iL;generalize (eg e).1=c at hc |-;generalize (eg e).2=n at hc |-;have g1:(((d:Int)+1)== 0)=false:=by rw[GU];omega
  have x0:aA (.tup [c.av,.int .i64 n]) 0=some c.av:=rfl;have x1:aA (.tup [c.av,.int .i64 n]) 1=some (.int .i64 n):=rfl;have e1:am T .neq 3 (.int .i64 c.n) (.int .i64 e.n)=some (.bool (!(c.n== e.n))):=rfl;have e2:am T .neq 9 (.str c.s) (.str e.s)=some (.bool (!(c.s== e.s))):=rfl;have e3:am T .neq 9 (.str c.m) (.str e.m)=some (.bool (!(c.m== e.m))):=rfl;have e4:am T .neq 3 (.int .i64 c.names.length) (.int .i64 e.names.length)=some (.bool (!((c.names.length:Int)== (e.names.length:Int)))):=rfl;have e5:am T .neq 3 (.int .i64 n) (.int .i64 e.args.length)=some (.bool (!(n== (e.args.length:Int)))):=rfl;have e6:am T .geq 3 (.int .i64 n) (.int .i64 0)=some (.bool (!(decide (n<0)))):=by
   have:am T .geq 3 (.int .i64 n) (.int .i64 0)=some (.bool (decide (0<=n))):=rfl;rw[this,<- decide_not];exact GR (fun b=>some (AV.bool b)) (H1.2 (by omega))
  have e7:am T .lss 3 (.int .i64 e.op) (.int .i64 0)=some (.bool (!(decide (0<=e.op)))):=by
   have:am T .lss 3 (.int .i64 e.op) (.int .i64 0)=some (.bool (decide (e.op<0))):=rfl;rw[this,<- decide_not];exact GR (fun b=>some (AV.bool b)) (H1.2 (by omega))
  have e8:am T .geq 3 (.int .i64 e.op) (.int .i64 19)=some (.bool (!(decide (e.op<19)))):=by
   have:am T .geq 3 (.int .i64 e.op) (.int .i64 19)=some (.bool (decide (19<=e.op))):=rfl;rw[this,<- decide_not];exact GR (fun b=>some (AV.bool b)) (H1.2 (by omega))
  generalize (c.n== e.n)=b1 at e1 |-;generalize (c.s== e.s)=b2 at e2 |-;generalize (c.m== e.m)=b3 at e3 |-;generalize ((c.names.length:Int)== (e.names.length:Int))=b4 at e4 |-;generalize (n== (e.args.length:Int))=b5 at e5 |-;generalize decide (n<0)=b6 at e6 |-;generalize decide (0<=e.op)=b7 at e7 |-;generalize decide (e.op<19)=b8 at e8 |-;generalize dY e=bl at hl |-;generalize e.args.all (cm d)=bx at hx' |-;cases b7 with
  |false=>simp[S178,g1,e7,-bT]
  | true=>
   cases b8 with
   |false=>simp[S178,g1,e7,e8,-bT,-pE]
   |true=>
    cases b6<;>cases b5<;>cases b1<;>cases b2<;>cases b3<;>cases b4<;>cases bl<;>simp[S178,g1,hc,x0,x1,pL,hl,hx',e1,e2,e3,e4,e5,e6,e7,e8,-bT,-pE,-pF]
def t118(e:Exp)(he:e.Lim):ah pg 118 [e.av]=M.pure (.bool (uw e)):=by
 have hb':ah pg 178 [e.av,.int .i64 12]=M.pure (.bool (cm 12 e)):=t178 12 (by omega) e he;rw[C118];simp[S118,hb']
def ER(q:Nat)(m:Ap.Mod)(mp:AV)(h:Hp):Tr Ty->Av.R AV
 |.ok t n=>.ok (.tup [t.av,.int .i64 0]) (h.set q (aT m mp n))
 |.er b n=>.ok (.tup [ty0.av,.int .i64 b]) (h.set q (aT m mp n))
def Gl(q:Nat)(m:Ap.Mod)(mp:AV)(h:Hp)(acc:List Ty):Tr (List Ty)->Av.R AV
 |.ok ts n=>.ok (.tup [dR (acc++ts),.int .i64 0]) (h.set q (aT m mp n))
 |.er b n=>.ok (.tup [.sl [],.int .i64 b]) (h.set q (aT m mp n))
def jg(q:Nat)(m:Ap.Mod)(mp:AV)(fs:List Face)(d:Nat):Prop:=∀(ls:List br)(e:Exp)(n:Int)(h:Hp),cm d e=true->e.Lim->(∀z∈ls,dk z.2)->ls.length+d<=1000000->JR h q m mp fs n->
 ah pg 124 [.hp q 0,aC ls,e.av] h=ER q m mp h (bi (dj m fs) d ls e n)/\∀t n',bi (dj m fs) d ls e n= .ok t n'->dk t
def yF{q:Nat}{m:Ap.Mod}{mp:AV}{fs:List Face}{d:Nat}(P:jg q m mp fs d)(ls:List br)(hls:∀z∈ls,dk z.2)(hll:ls.length+d<=1000000)(es:List Exp)(hes:es.length<=140737488355328)(he:∀e∈es,cm d e=true/\e.Lim):∀(k i:Nat)(acc:List Ty)(n:Int)(h:Hp),es.length-i=k->i<=es.length->acc.length<=i->es.length<=1000000->JR h q m mp fs n->
  aj (L184_0 (ah pg) aj) [.hp q 0,aC ls,dR acc,cj es,.int .i64 es.length,.int .i64 i] h=Gl q m mp h acc (cR (bi (dj m fs) d ls) (es.drop i) n)/\∀ts n',cR (bi (dj m fs) d ls) (es.drop i) n= .ok ts n'->ts.length=es.length-i/\∀t∈ts,dk t:=by
 intro k
 induction k with
 | zero=>
  intro i acc n h hk hi ha hs R;have h1:¬((i:Int)<(es.length:Int)):=by omega
  have h2:es.drop i=[]:=G5 (by omega);rw[h2];refine⟨?_,fun ts n' ht=>?_⟩
  ·rw[FL184_0];show _=Av.R.ok (AV.tup [dR (acc++[]),.int .i64 0]) (h.set q (aT m mp n));rw[R.same,JE];simp[L184_0,h1];rfl
  ·cases ht;exact⟨by simp;omega,fun t ht=>by cases ht⟩
 | succ k ih=>
  intro i acc n h hk hi ha hs R;have hlt:i<es.length:=by omega
  have h1:(i:Int)<(es.length:Int):=by omega
  have h2:es.drop i=es[i]:: es.drop (i+1):=GZ hlt;have hw:IntKind.i64.wrap ((i:Int)+1)=(i:Int)+1:=aK (by omega);have hix:=lY (l:=es) (n:=(i:Int)) (by omega) h1;rw[GP,G2 es i hlt]at hix;obtain⟨hr,hl⟩:=he es[i] (GQ hlt);obtain⟨p1,p2⟩:=P ls es[i] n h hr hl hls hll R;rw[h2];have hne:=fw (dj m fs) d ls es[i] n;generalize es[i]=e at hix hr hl p1 p2 hne |-;generalize hcode:aj (L184_0 (ah pg) aj) [.hp q 0,aC ls,dR acc,cj es,.int .i64 es.length,.int .i64 i] h=code;rw[FL184_0]at hcode;simp -implicitDefEqProofs only[L184_0,bc,bm,bT,aI,h1,HB,aZ,Hk,hix,bJ,LD47,GY,G4,G1,Nat.reduceAdd,GL,Hb,Hn,dK,pL,aR]at hcode;cases ht:bi (dj m fs) d ls e n with
  | er b n'=>
   rw[ht]at p1;have hb:(b != 0)=true:=H5.2 (hne b n' ht);have hz:aH 2 ty0.av=M.pure ty0.av:=Av.dW ty0;rw[aF p1]at hcode;simp -implicitDefEqProofs only[jU,Hd,Iq,aI,hz,aR,pF,hb,aZ,Hk]at hcode;have e1:cR (bi (dj m fs) d ls) (e:: es.drop (i+1)) n= .er b n':=by
    simp only[cR,dv.bind,ht]
   rw[e1];exact⟨hcode.symm,fun ts n'' h3=>by cases h3⟩
  | ok t n'=>
   rw[ht]at p1;rw[aF p1]at hcode;have R':=R.set n';obtain⟨i1,i2⟩:=ih (i+1) (acc++[t]) n' (h.set q (aT m mp n')) (by omega) (by omega) (by simp;omega) hs R';have hap:=Di (a:=acc) (b:=[t]) (by simp;omega);have hsl:bg T 54 1 [(0,t.av)]=some (dR [t]):=by cases t;rfl
   have i1':aj (L184_0 (ah pg) aj) [.hp q 0,aC ls,dR (acc++[t]),cj es,.int .i64 es.length,.int .i64 ((i:Int)+1)] (h.set q (aT m mp n'))=_:=i1;simp -implicitDefEqProofs only[jU,Hd,Iq,aI,Av.dW,aR,pF,bne_self_eq_false,aZ,Hm,HI,bG,LD27,GY,G4,G1,Nat.reduceAdd,GL,Hk,Hb,Hn,cu,hsl,hap,dL,hw,i1']at hcode;have e1:cR (bi (dj m fs) d ls) (e:: es.drop (i+1)) n=(match cR (bi (dj m fs) d ls) (es.drop (i+1)) n' with|.ok ts n''=>.ok (t:: ts) n''|.er b n''=>.er b n''):=by
    simp only[cR,dv.bind,ht];cases cR (bi (dj m fs) d ls) (es.drop (i+1)) n'<;>rfl
   rw[e1];cases hL:cR (bi (dj m fs) d ls) (es.drop (i+1)) n' with
   |er b n''=>
    rw[hL]at hcode;refine⟨?_,fun ts n'' h3=>by cases h3⟩;rw[<- hcode];show Av.R.ok _ _=Av.R.ok _ _;rw[Gv]
   | ok ts n''=>
    rw[hL]at hcode;obtain⟨j1,j2⟩:=i2 ts n'' hL;refine⟨?_,fun us n3 h3=>?_⟩
    ·rw[<- hcode];show Av.R.ok _ _=Av.R.ok _ _;rw[Gv,HT];rfl
    ·cases h3;refine⟨by simp only[GY];omega,fun u hu=>?_⟩;rcases Ha.1 hu with rfl|hu
     ·exact p2 _ _ ht
     ·exact j2 u hu
def EG{q:Nat}{m:Ap.Mod}{mp:AV}{fs:List Face}{d:Nat}(P:jg q m mp fs d)(ls:List br)(hls:∀z∈ls,dk z.2)(hll:ls.length+d<=1000000)(es:List Exp)(hes:es.length<=1000000)(he:∀e∈es,cm d e=true/\e.Lim)(n:Int)(h:Hp)(R:JR h q m mp fs n):
  ah pg 184 [.hp q 0,aC ls,cj es] h=Gl q m mp h [] (cR (bi (dj m fs) d ls) es n)/\∀ts n',cR (bi (dj m fs) d ls) es n= .ok ts n'->ts.length=es.length/\∀t∈ts,dk t:=by
 obtain⟨h1,h2⟩:=yF P ls hls hll es (by omega) he es.length 0 [] n h rfl (G9 _) (G9 _) hes R;rw[Hi]at h1 h2;refine⟨?_,fun ts n' ht=>h2 ts n' ht⟩;rw[<- h1,C184];simp only[S184,wb,aI];rfl
theorem nT:be T false 27 []=some ty0.av:=rfl
def gE{u t:Ty}(hu:dk u)(ht:a8 t=true):ah pg 125 [u.av,t.av]=M.pure (.bool (aJ u t)):=t125 4 t u (hu 4) (dQ ht 4) ht
def F0{q:Nat}{m:Ap.Mod}{mp:AV}{fs:List Face}{d:Nat}(P:jg q m mp fs d)(K:CxOk m fs)(ls:List br)(hls:∀z∈ls,dk z.2)(hll:ls.length+d<=1000000)(e:Exp)(hop:e.op=17\/e.op=18)(ha:e.op=18->∃x,e.args=[x]/\cm d x=true/\x.Lim)(n:Int)(h:Hp)(R:JR h q m mp fs n):
  ah pg 182 [.hp q 0,aC ls,e.av] h=ER q m mp h (cH (dj m fs) (bi (dj m fs) d) ls e n)/\∀t n',cH (dj m fs) (bi (dj m fs) d) ls e n= .ok t n'->dk t:=by
 have l1:∀f:AV->M AV,ae (bn T 25 (.hp q 2)) f h=f (aC m.vars) h:=fun f=>aF R.vars f;have hk:=t181 m.vars (by have:=K.vlen;omega) e.s;rw[nB hop,C182];show S182 (ah pg) aj (.hp q 0) (aC ls) e.av h=ER q m mp h ((match aN (fun z=>z.1== e.s) m.vars with
  |none=>dv.er 12
  |some z=>if e.op=18 then dv.bind (bi (dj m fs) d ls e.args[0]!) fun u=>if aJ u z.2=true then dv.ok z.2 else dv.er 13 else dv.ok z.2:dv Ty) n)/\∀t n',(match aN (fun z=>z.1== e.s) m.vars with
  |none=>dv.er 12
  |some z=>if e.op=18 then dv.bind (bi (dj m fs) d ls e.args[0]!) fun u=>if aJ u z.2=true then dv.ok z.2 else dv.er 13 else dv.ok z.2:dv Ty) n= .ok t n'->dk t
 cases hz:aN (fun z:br=>z.1== e.s) m.vars with
 |none=>
  rw[hz]at hk;refine⟨?_,fun t n' h3=>by cases h3⟩;show _=Av.R.ok (AV.tup [ty0.av,.int .i64 12]) (h.set q (aT m mp n));rw[R.same];simp[S182,l1,hk,nT];rfl
 | some z=>
  rw[hz]at hk;dsimp only;have hzr:=K.vars z (fD hz).1;rcases hop with hop|hop
  ·rw[if_neg (show ¬e.op=18 by omega)];refine⟨?_,fun t n' h3=>by cases h3;exact dQ hzr⟩;show _=Av.R.ok (AV.tup [z.2.av,.int .i64 0]) (h.set q (aT m mp n));rw[R.same];simp[S182,K182_0,l1,hk,hop];rfl
  ·rw[GM hop];obtain⟨x,hx,hr,hl⟩:=ha hop;have hx0:e.args[0]! = x:=by rw[hx];rfl
   obtain⟨p1,p2⟩:=P ls x n h hr hl hls hll R;have hix:ak T 36 (cj e.args) (.int .i64 0)=some (.ip (ab x.av)):=by
    have:=lY (l:=e.args) (n:=0) (by omega) (by rw[hx];simp)
    rw[this,hx];rfl
   rw[hx0];have hne:=fw (dj m fs) d ls x n;cases ht:bi (dj m fs) d ls x n with
   |er b n'=>
    rw[ht]at p1;have hb:(b != 0)=true:=H5.2 (hne b n' ht);have k1:∀f:AV->M AV,ae (ah pg 124 [.hp q 0,aC ls,x.av]) f h=f (.tup [ty0.av,.int .i64 b]) (h.set q (aT m mp n')):=fun f=>aF p1 f;have e1:dv.bind (bi (dj m fs) d ls x) (fun u=>if aJ u z.2=true then dv.ok z.2 else dv.er 13) n= .er b n':=by simp only[dv.bind,ht]
    rw[e1];refine⟨?_,fun t n' h3=>by cases h3⟩;show _=Av.R.ok (AV.tup [ty0.av,.int .i64 b]) (h.set q (aT m mp n'));simp[S182,K182_0,l1,hk,hop,hix,k1,hb,nT];rfl
   | ok u n'=>
    rw[ht]at p1;have hus:=p2 u n' ht;have k1:∀f:AV->M AV,ae (ah pg 124 [.hp q 0,aC ls,x.av]) f h=f (.tup [u.av,.int .i64 0]) (h.set q (aT m mp n')):=fun f=>aF p1 f;have hbl:=gE hus hzr;cases hb:aJ u z.2 with
    |true=>
     rw[hb]at hbl;have e1:dv.bind (bi (dj m fs) d ls x) (fun u=>if aJ u z.2=true then dv.ok z.2 else dv.er 13) n= .ok z.2 n':=by simp only[dv.bind,ht,hb,Hk];rfl
     rw[e1];refine⟨?_,fun t n' h3=>by cases h3;exact dQ hzr⟩;show _=Av.R.ok (AV.tup [z.2.av,.int .i64 0]) (h.set q (aT m mp n'));simp[S182,K182_0,l1,hk,hop,hix,k1,hbl];rfl
    |false=>
     rw[hb]at hbl;have e1:dv.bind (bi (dj m fs) d ls x) (fun u=>if aJ u z.2=true then dv.ok z.2 else dv.er 13) n= .er 13 n':=by simp only[dv.bind,ht,hb,Hm,HI];rfl
     rw[e1];refine⟨?_,fun t n' h3=>by cases h3⟩;show _=Av.R.ok (AV.tup [ty0.av,.int .i64 13]) (h.set q (aT m mp n'));simp[S182,K182_0,l1,hk,hop,hix,k1,hbl,nT];rfl
theorem yE{q:Nat}{m:Ap.Mod}{mp:AV}{fs:List Face}{n:Int}{h:Hp}(R:JR h q m mp fs n)(s:Sig)(l:List Ty)(hl:∀t∈l,dk t)(hps:∀t∈s.params,a8 t=true)(hlen:l.length=s.params.length)(hb:l.length<=1000000)(x y:AV):∀(k i:Nat),l.length-i=k->i<=l.length->
  aj (L183_0 (ah pg) aj) [.hp q 0,.ip (ab s.av),dR l,.int .i64 l.length,.int .i64 i,x,y] h=(if cg aJ (l.drop i) (s.params.drop i)=true then .ok (.tup [s.result.av,.int .i64 0]) (h.set q (aT m mp (l6 n s.effects)))else .ok (.tup [ty0.av,.int .i64 13]) h):=by
 intro k
 induction k with
 |zero=>
  intro i hk hi;have h1:¬((i:Int)<(l.length:Int)):=by omega
  have h2:l.drop i=[]:=G5 (by omega);have h3:s.params.drop i=[]:=G5 (by omega);rw[h2,h3,GM (show cg aJ [] []=true from rfl)];have l1:∀f:AV->M AV,ae (bn T 3 (.hp q 10)) f h=f (.int .i64 n) h:=fun f=>aF R.eff f;have l2:∀f:AV->M AV,ae (bH T 3 (.hp q 10) (.int .i64 (l6 n s.effects))) f h=f (.tup []) (h.set q (aT m mp (l6 n s.effects))):=fun f=>aF (R.put _) f;have hor:am T .or 3 (.int .i64 n) (.int .i64 s.effects)=some (.int .i64 (l6 n s.effects)):=rfl;rw[FL183_0];simp[L183_0,h1,l1,hor,l2];rfl
 | succ k ih=>
  intro i hk hi;have hlt:i<l.length:=by omega
  have hlt2:i<s.params.length:=by omega
  have h1:(i:Int)<(l.length:Int):=by omega
  have h2:l.drop i=l[i]:: l.drop (i+1):=GZ hlt;have h3:s.params.drop i=s.params[i]:: s.params.drop (i+1):=GZ hlt2;have hw:IntKind.i64.wrap ((i:Int)+1)=(i:Int)+1:=aK (by omega);have hix:=mf (l:=l) (n:=(i:Int)) (by omega) h1;rw[GP,G2 l i hlt]at hix;have hix2:=mf (l:=s.params) (n:=(i:Int)) (by omega) (by omega);rw[GP,G2 s.params i hlt2]at hix2;have hbl:=gE (hl _ (GQ hlt)) (hps _ (GQ hlt2));have ih':aj (L183_0 (ah pg) aj) [.hp q 0,.ip (ab s.av),dR l,.int .i64 l.length,.int .i64 ((i:Int)+1),x,y] h=_:=ih (i+1) (by omega) (by omega);rw[h2,h3];generalize l[i]=u at hix hbl |-;generalize s.params[i]=t at hix2 hbl |-;have ea:cg aJ (u:: l.drop (i+1)) (t:: s.params.drop (i+1))=(aJ u t&&cg aJ (l.drop (i+1)) (s.params.drop (i+1))):=rfl;rw[ea];generalize hcode:aj (L183_0 (ah pg) aj) [.hp q 0,.ip (ab s.av),dR l,.int .i64 l.length,.int .i64 i,x,y] h=code;rw[FL183_0]at hcode;cases hb2:aJ u t with
  |true=>
   rw[hb2]at hbl;rw[HJ,<- ih'];simp -implicitDefEqProofs only[L183_0,bc,bm,bT,aI,h1,HB,aZ,Hk,hix,bG,LD27,GY,G4,G1,Nat.reduceAdd,GL,Hb,Hn,cu,Av.dW,aR,dx,FA56_1,HH,Hi,LD54,hix2,hbl,eM,g7,H3,Hm,HI,dL,hw]at hcode;rw[<- hcode,dx]
  |false=>
   rw[hb2]at hbl;rw[I1,if_neg (by decide)];have hz:aw 2 [] ty0.av=M.pure ty0.av:=il ty0;have ha:ab ty0.av=[.int .i64 0,.sl []]:=rfl;simp -implicitDefEqProofs only[L183_0,bc,bm,bT,aI,h1,HB,aZ,Hk,hix,bG,LD27,GY,G4,G1,Nat.reduceAdd,GL,Hb,Hn,cu,Av.dW,aR,dx,FA56_1,HH,Hi,LD54,hix2,hbl,eM,g7,I2,nT,hz]at hcode;rw[<- hcode];rfl
def F5{q:Nat}{m:Ap.Mod}{mp:AV}{fs:List Face}{d:Nat}(P:jg q m mp fs d)(K:CxOk m fs)(ls:List br)(hls:∀z∈ls,dk z.2)(hll:ls.length+d<=1000000)(e:Exp)(hop:e.op=15)(hlen:e.args.length<=1000000)(ha:∀x∈e.args,cm d x=true/\x.Lim)(n:Int)(h:Hp)(R:JR h q m mp fs n):
  ah pg 183 [.hp q 0,aC ls,e.av] h=ER q m mp h (cH (dj m fs) (bi (dj m fs) d) ls e n)/\∀t n',cH (dj m fs) (bi (dj m fs) d) ls e n= .ok t n'->dk t:=by
 obtain⟨r,c1,c2⟩:=F6 R K e;have k1:∀f:AV->M AV,ae (ah pg 229 [.hp q 0,e.av]) f h=f r h:=fun f=>aF c1 f;rw[lS hop,C183]
 have hpar:∀s,ct (dj m fs) e=some s->(∀t∈s.1,a8 t=true)/\a8 s.2.1=true:=by
  intro s hs;unfold ct at hs;split at hs
  ·split at hs
   ·rename_i f hf;cases hs;have hm:=HS hf;exact⟨fun t ht=>by obtain⟨z,hz,rfl⟩:=HP.1 ht;exact K.pars f hm z hz,K.res f hm⟩
   ·cases hs
  ·split at hs
   ·cases hs
   ·rename_i f hf;split at hs
    ·cases hs
    ·rename_i s' hs';split at hs
     ·cases hs;have hm:=HS (show fs.find? _=some f from hf);have hm2:=HS hs';exact⟨K.spars f hm s' hm2,K.sres f hm s' hm2⟩
     ·cases hs
 cases hc:ct (dj m fs) e with
 |none=>
  rw[hc]at c2;subst c2;refine⟨?_,fun t n' h3=>by cases h3⟩;show _=Av.R.ok (AV.tup [ty0.av,.int .i64 12]) (h.set q (aT m mp n));rw[R.same];have k2:∀f:AV->M AV,ae (ah pg 229 [.hp q 0,e.av]) f h=f (.tup [vP.av,.bool false]) h:=k1;have z1:aH 5 vP.av=M.pure vP.av:=jo vP;simp[S183,k2,z1,nT];rfl
 | some s=>
  rw[hc]at c2;obtain⟨nm,rfl⟩:=c2;obtain⟨hp1,hp2⟩:=hpar s hc;obtain⟨ps,res,eff⟩:=s;have z1:aH 5 (Sig.mk nm ps res eff).av=M.pure (Sig.mk nm ps res eff).av:=jo _;dsimp only;by_cases hl:ps.length=e.args.length
  ·rw[GM hl];have hl':((ps.length:Int) != (e.args.length:Int))=false:=by simp[hl]
   obtain⟨g1,g2⟩:=EG P ls hls hll e.args hlen ha n h R;cases ht:cR (bi (dj m fs) d ls) e.args n with
   |er b n'=>
    rw[ht]at g1;have hb:(b != 0)=true:=H5.2 (ke (fw (dj m fs) d ls) _ n b n' ht);have k2:∀f:AV->M AV,ae (ah pg 184 [.hp q 0,aC ls,cj e.args]) f h=f (.tup [.sl [],.int .i64 b]) (h.set q (aT m mp n')):=fun f=>aF g1 f;have e1:dv.bind (cR (bi (dj m fs) d ls) e.args) (fun l=>if cg aJ l ps=true then fun n=>Tr.ok res (l6 n eff)else dv.er 13) n= .er b n':=by simp only[dv.bind,ht]
    rw[e1];refine⟨?_,fun t n' h3=>by cases h3⟩;show _=Av.R.ok (AV.tup [ty0.av,.int .i64 b]) (h.set q (aT m mp n'));simp[S183,k1,z1,hl,k2,hb,nT];rfl
   | ok l n'=>
    rw[ht]at g1;obtain⟨g3,g4⟩:=g2 l n' ht;have k2:∀f:AV->M AV,ae (ah pg 184 [.hp q 0,aC ls,cj e.args]) f h=f (.tup [dR l,.int .i64 0]) (h.set q (aT m mp n')):=fun f=>aF g1 f;have hlp:=yE (R.set n') (Sig.mk nm ps res eff) l g4 hp1 (by rw[g3];exact hl.symm) (by omega) (.int .i64 0) (.sl []) l.length 0 rfl (G9 _);have hlp':aj (L183_0 (ah pg) aj) [.hp q 0,.ip [.str nm,dR ps,.int .i64 res.kind,aC res.fields,.int .i64 eff],dR l,.int .i64 l.length,.int .i64 0,.int .i64 0,.sl []] (h.set q (aT m mp n'))=(if cg aJ l ps=true then .ok (.tup [res.av,.int .i64 0]) ((h.set q (aT m mp n')).set q (aT m mp (l6 n' eff)))else .ok (.tup [ty0.av,.int .i64 13]) (h.set q (aT m mp n'))):=hlp;have e1:dv.bind (cR (bi (dj m fs) d ls) e.args) (fun l=>if cg aJ l ps=true then fun n=>Tr.ok res (l6 n eff)else dv.er 13) n=if cg aJ l ps=true then .ok res (l6 n' eff)else .er 13 n':=by
     simp only[dv.bind,ht];split<;>rfl
    rw[e1];constructor
    ·simp[S183,k1,z1,hl,k2];rw[hlp',Gv];split<;>rfl
    ·intro t n'' h3;split at h3
     ·cases h3;exact dQ hp2
     ·cases h3
  ·rw[if_neg hl];refine⟨?_,fun t n' h3=>by cases h3⟩;show _=Av.R.ok (AV.tup [ty0.av,.int .i64 13]) (h.set q (aT m mp n));rw[R.same];simp[S183,k1,z1,hl,nT];rfl
end Go.Proofs.YteemeakjlfnapaaGreatDoor
