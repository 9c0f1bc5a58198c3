/- What the functions of the seat compute, part 7: the texts of the claim, one behind the other. Conditions: bounds, as each theorem names them. -/
import Derived.Test.YtpmcemjkdkbicaaGreatDoorTf
set_option linter.defProp false
set_option linter.unusedSimpArgs false
set_option linter.unusedVariables false
namespace Go.Proofs.YtpmcemjkdkbicaaGreatDoor
open Go Go.Av Go.Av.Ap
set_option maxRecDepth 100000
def ni{T:TT}{t e:Nat}{ti ei:TI}(ht:T t=some ti)(hk:ti.kind= .slice e)(he:T e=some ei)(es:List AV)(hok:cR ei.size es=true){a:Int}(h0:0<=a)(h1:a<=es.length):dj T t (.sl es) (some (.int .i64 a)) none none=some (.sl (es.drop a.toNat)):=by
 unfold dj;rw[ht];simp[hk,he,cC,h0,h1,hok]
def IZ{w:List aU}(h:1<=w.length):dj T 35 (strs w) (some (.int .i64 1)) none none=some (strs w.tail):=by
 have:=ni (T:=T) (t:=35) (e:=9) rfl rfl rfl (w.map AV.str) (zC w) (a:=1) (by omega) (by simp;omega)
 rw[show (w.map AV.str).drop (1:Int).toNat=w.tail.map AV.str by cases w<;>rfl]at this;exact this
theorem Ed(cs:List AV)(h1:cs.length=20)(h2:cs.all pu=true):dj T 120 (.ip cs) none none none=some (.sl cs):=by
 have e:dj T 120 (.ip cs) none none none=if(1:Nat)=1/\cs.length=20/\0<20/\cs.all pu=true then some (.sl cs)else none:=rfl;rw[e,LC ⟨rfl,h1,by omega,h2⟩]
theorem uA(x0 x1 x2 x3 x4:AV)(op a:Int)(s m:aU)(l:List aU):K29_0 (ai pg) ah [x0,x1,x2,x3,x4,.int .i64 op,.int .i64 a,.str s,.str m,strs l]=M.pure (Ins.mk op a s m l).av:=by
 have h:aE 5 [] (Ins.mk op a s m l).av=M.pure (Ins.mk op a s m l).av:=rfl;have h':aE 5 [] (.agg [.int .i64 op,.int .i64 a,.str s,.str m,strs l])=M.pure (Ins.mk op a s m l).av:=h;simp -implicitDefEqProofs only[K29_0,aw,aB,h',ax];rfl
def Bh{l:List aU}(h:0<l.length):ak T 35 (strs l) (.int .i64 0)=some (.ip (ab (.str (l.getD 0 [])))):=by
 have:=jI (l:=l) (n:=0) (by omega) (by omega)
 rw[this];cases l with
 |nil=>cases h
 |cons=>rfl
def Im{l:List aU}(h:1<l.length):ak T 35 (strs l) (.int .i64 1)=some (.ip (ab (.str (l.getD 1 [])))):=by
 have:=jI (l:=l) (n:=1) (by omega) (by omega)
 rw[this];rcases l with _|⟨a,_|⟨b,l⟩⟩
 ·simp at h
 ·simp at h
 ·rfl
def Io{l:List aU}(h:2<l.length):ak T 35 (strs l) (.int .i64 2)=some (.ip (ab (.str (l.getD 2 [])))):=by
 have:=jI (l:=l) (n:=2) (by omega) (by omega)
 rw[this];rcases l with _|⟨a,_|⟨b,_|⟨c,l⟩⟩⟩
 ·simp at h
 ·simp at h
 ·simp at h
 ·rfl
def xR{l:List aU}{n:Nat}(h:∀x∈l,x.length<=1000000000)(k:Nat):(l.getD k []).length<=1000000000:=by
 rw[Mm];cases hk:l[k]? with
 |none=>simp
 |some x=>exact h x (MS hk)
def pi(l:List aU):l.headD []=l.getD 0 []:=by cases l<;>rfl
theorem t29(w:List aU)(hne:0<w.length)(hb:w.length<=1000000)(hx:∀x∈w,x.length<=1000000000):ai pg 29 [strs w]=M.pure (eB w).av:=by
 have hsl:=Ed (cb.map AV.str) rfl (by decide);have hiS:=t58 cb (w.getD 0 []) (by decide);have hi0:=Bh (l:=w) hne;have htl:=IZ (w:=w) (by omega);have htx:∀x∈w.tail,x.length<=1000000000:=fun x h=>hx x (List.mem_of_mem_tail h);have htb:w.tail.length<=1000000:=by simp;omega
 have e0:(AV.sl []:AV)=strs []:=rfl;have hI:eB w=(if bG (fun x=>x== w.getD 0 []) cb 0=12 then⟨bG (fun x=>x== w.getD 0 []) cb 0,0,[],[],w.tail⟩
   else if bG (fun x=>x== w.getD 0 []) cb 0=13/\w.tail.length=1 then⟨bG (fun x=>x== w.getD 0 []) cb 0,0,w.tail.getD 0 [],[],[]⟩
   else if bG (fun x=>x== w.getD 0 []) cb 0=14/\w.tail.length=3 then⟨bG (fun x=>x== w.getD 0 []) cb 0,fp (w.tail.getD 2 []),w.tail.getD 1 [],mB (w.tail.getD 0 []),[]⟩
   else if w.tail.length=1 then⟨bG (fun x=>x== w.getD 0 []) cb 0,fp (w.tail.getD 0 []),[],[],[]⟩
   else⟨bG (fun x=>x== w.getD 0 []) cb 0,0,[],[],[]⟩):=by
  unfold eB;simp only[pi]
 have hsl':dj T 120 (.ip (cb.map AV.str)) none none none=some (strs cb):=hsl;simp only[cb,Mi,N1]at hsl';rw[C29,show cl az (strs w)=strs w by simp];have key:S29 (ai pg) ah (strs w)=M.pure (eB w).av:=by
  rw[hI];have hfin:∀op:Int,∀r:List aU,(∀x∈r,x.length<=1000000000)->r.length<=1000000->True:=fun _ _ _ _=>trivial;simp -implicitDefEqProofs only[S29,hsl',am,hi0,zt];rw[show (strs [[105,110,116],[98,111,111,108],[108,111,97,100],[115,116,111,114,101],[97,100,100],[115,117,98],[109,117,108],[108,101,115,115],[101,113],[110,111,116],[106,117,109,112],[102,97,108,115,101],[114,101,99],[102,105,101,108,100],[99,97,108,108],[97,99,116],[103,101,116],[115,101,116],[114,101,116,117,114,110],[112,111,112]])=strs cb from rfl,hiS];generalize bG (fun x=>x== w.getD 0 []) cb 0=op;generalize w.tail=r at *;have n0:nth (ab (aD op 0).av) 0= .int .i64 op:=rfl;have n1:nth (ab (aD op 0).av) 1= .int .i64 0:=rfl;have n2:nth (ab (aD op 0).av) 2= .str []:=rfl;have n3:nth (ab (aD op 0).av) 3= .str []:=rfl;have n4:nth (ab (aD op 0).av) 4=strs []:=rfl;have hcs:cq (strs r)=M.pure (strs r):=rfl;have hc1:∀s:aU,cq (.str s)=M.pure (.str s):=fun _=>rfl;have hc2:∀n:Int,cq (.int .i64 n)=M.pure (.int .i64 n):=fun _=>rfl;have u0:=t28 (r.getD 0 []) (by have:=xR (n:=0) htx 0;omega);have u2:=t28 (r.getD 2 []) (by have:=xR (n:=0) htx 2;omega);have up:=t60 (r.getD 0 []);simp -implicitDefEqProofs only[dU,ax,CQ,am,zN,htl,jn,n0,n1,n2,n3,n4,eV,ap,LB];by_cases h12:op=12
  ·simp -implicitDefEqProofs only[LC h12,t59 r (by omega),ax,hcs,uA]
  simp -implicitDefEqProofs only[if_neg h12,d8,am];have l1:decide (((r.length:Nat):Int)=1)=decide (r.length=1):=MG.2 (by omega);have l3:decide (((r.length:Nat):Int)=3)=decide (r.length=3):=MG.2 (by omega);simp -implicitDefEqProofs only[eV,bA,ax,aw,d7,am,ap,l1,l3,LD,LB];by_cases h13:op=13/\r.length=1
  ·simp -implicitDefEqProofs only[LC h13,Bh (l:=r) (by omega),zt,am,hc1,ax,uA,e0]
  simp -implicitDefEqProofs only[if_neg h13];by_cases h14:op=14/\r.length=3
  ·simp -implicitDefEqProofs only[LC h14,Bh (l:=r) (by omega),Im (l:=r) (by omega),Io (l:=r) (by omega),zt,am,up,u2,dU,hc1,hc2,ax,uA,e0]
  simp -implicitDefEqProofs only[if_neg h14];by_cases h1:r.length=1
  ·have h1':(r.length:Int)=1:=by omega
   simp -implicitDefEqProofs only[LC h1,LC h1',Bh (l:=r) (by omega),zt,am,u0,hc2,ax,uA,e0]
  ·have h1':¬(r.length:Int)=1:=by omega
   simp -implicitDefEqProofs only[if_neg h1,if_neg h1',uA,e0]
 rw[key];exact cg fun g=>oQ g _
def kM(s:aU):List AV:=s.map fun b=>AV.int .u8 b.toNat
def iI(s:aU):List AV:=s.map fun b=>AV.byt 5 b.toNat
def Ga(h:Hp)(l:Nat)(s:aU):Prop:=(s=[]/\(h[l]? = some [.nilb 71,.hn]\/h[l]? = some [.hp l 0,.hn]))\/(s≠[]/\∃lb,lb≠l/\h[l]? = some [.hp l 0,.hs lb 0 s.length 1 false]/\h[lb]? = some (iI s))
def tE(s:aU):oL 5 (kM s)=some (iI s):=by
 induction s with
 |nil=>rfl
 |cons b s ih=>
  show (oL 5 (kM s)).map (AV.byt 5 b.toNat:: ·)=_;rw[ih];rfl
def yQ(s:aU):iA 5 (iI s)=some s:=by
 induction s with
 |nil=>rfl
 | cons b s ih=>
  show (match qW 5 (.byt 5 b.toNat),iA 5 (iI s)with|some b,some l=>some (b:: l)|_,_=>none)=_;have hb:qW 5 (.byt 5 (b.toNat:Int))=some b:=by
   have h1:(b.toNat:Int)<256:=by have:=b.toNat_lt;omega
   simp[qW,h1]
  rw[ih,hb]
def CL(s:aU):(iI s).all (nL 5)=true:=by
 rw[LO];intro x hx;obtain⟨b,_,rfl⟩:=Mu.1 hx;rfl
def Aj(s:aU)(hs:s≠[])(hb:s.length<=140737488355328)(h:Hp):oH T 69 .hn (.str s) h= .ok (.hs h.length 0 s.length 1 false) (h++[iI s]):=by
 show (match oL 5 (kM s)with
  |none=>R.fail
  |some cs'=>bif (kM s).isEmpty then R.ok AV.hn h else bif decide ((kM s).length<=140737488355328)then R.ok (AV.hs h.length 0 (kM s).length 1 false) (h++[cs'])else .fail)=_
 rw[tE];have e:(kM s).isEmpty=false:=by cases s with|nil=>exact absurd rfl hs|cons=>rfl
 have e2:(kM s).length=s.length:=by simp[kM]
 simp[e,e2,hb]
theorem yE(h:Hp):oH T 69 .hn (.str []) h= .ok .hn h:=rfl
theorem yF(s t:aU)(hs:s≠[])(hb:s.length+t.length<=140737488355328)(h:Hp)(lb:Nat)(hl:h[lb]? = some (iI s)):oH T 69 (.hs lb 0 s.length 1 false) (.str t) h=
  if t=[]then R.ok (AV.hs lb 0 s.length 1 false) h else .ok (AV.hs h.length 0 (s.length+t.length) 1 false) ((h.set lb [])++[iI (s++t)]):=by
 show (match oL 5 (kM t)with
  |none=>R.fail
  |some cs'=>match h[lb]? with
   |none=>.fail
   | some cs=>bif cs.all (nL 5)&&decide (s.length<=cs.length)&&decide (0<s.length)&&decide (s.length+(kM t).length<=140737488355328)then
     (bif (kM t).isEmpty then R.ok (AV.hs lb 0 s.length 1 false) h
     else .ok (AV.hs h.length 0 (s.length+(kM t).length) 1 false) ((h.set lb [])++[cs.take s.length++cs']))else .fail)=_
 have h0:0<s.length:=Ms.2 hs;have hlen:(iI s).length=s.length:=by simp[iI]
 have hlt:(kM t).length=t.length:=by simp[kM]
 rw[tE,hl];simp only[CL,hlen,hlt,h0,hb,MI,LI,NT,LF];have htk:(iI s).take s.length=iI s:=by rw[<- hlen,Ny]
 cases t with
 |nil=>rfl
 |cons c t=>
  have e:(kM (c:: t)).isEmpty=false:=rfl;simp only[e,LL,htk];rw[if_neg (by simp)];simp[iI]
theorem Kj(l:Nat):bB (.hp l 0)=some (.hp l 0):=rfl
theorem fB1(l:Nat):aa T 71 (.hp l 0) 1=some (.hp l 1):=rfl
def t21{h:Hp}{l:Nat}{s:aU}(H:Ga h l s)(t:aU)(hb:s.length+t.length<=140737488355328):∃h',ai pg 21 [.hp l 0,.str t] h= .ok (.tup [.int .i64 t.length,.nili]) h'/\Ga h' l (s++t):=by
 have hcc:∀y:AV,(h[l]? = some [.nilb 71,y]\/h[l]? = some [.hp l 0,y])->ai pg 53 [.hp l 0] h= .ok (.tup []) (h.set l [.hp l 0,y]):=by
  intro y hy;rw[dx aI (E:=g7 [(71,2)]) rfl];show (match h[l]? with|some cs=>(match HQ [(71,2)] l cs with|some cs'=>R.ok (AV.tup []) (h.set l cs')|none=>.fail)|none=>.fail)=_;rcases hy with hy|hy<;>rw[hy]
  ·rfl
  ·show (match (bif Nat.beq l l&&Nat.beq 0 0 then some [AV.hp l 0,y]else none)with|some cs'=>R.ok (AV.tup []) (h.set l cs')|none=>.fail)=_;rw[Oj];rfl
 have hgo:∀(y z:AV)(h1 h2:Hp),ai pg 53 [.hp l 0] h= .ok (.tup []) h1->h1[l]? = some [.hp l 0,y]->oH T 69 y (.str t) h1= .ok z h2->h2[l]? = some [.hp l 0,y]->cI 1 z=true->ab z=[z]->
   ai pg 21 [.hp l 0,.str t] h= .ok (.tup [.int .i64 t.length,.nili]) (h2.set l [.hp l 0,z]):=by
  intro y z h1 h2 e1 r1 e2 r2 ok ac;have ld:bj T 69 (.hp l 1) h1= .ok y h1:=fX (T:=T) (t:=69) rfl rfl r1 rfl;have stt:=gM (T:=T) (t:=69) rfl (v:=z) r2 ok (show 1+1<=2 by omega) (by decide);rw[C21];simp only[S21,aL e1,Kj,am,fB1];rw[aL ld,aL e2,aL stt,ac];rfl
 rcases H with⟨rfl,H⟩|⟨hs,lb,hne,H,Hb⟩
 ·have e1:=hcc .hn H;have hl:l<h.length:=by rcases H with H|H<;>exact cU H
  have r1:(h.set l [AV.hp l 0,.hn])[l]? = some [.hp l 0,.hn]:=by rw[L6,LC rfl,LC hl]
  by_cases ht:t=[]
  ·subst ht;refine⟨_,hgo .hn .hn _ _ e1 r1 (yE _) r1 rfl rfl,.inl ⟨rfl,.inr ?_⟩⟩;rw[L6,LC rfl,LC (by simpa using hl)]
  ·have e2:=Aj t ht (by simpa using hb) (h.set l [AV.hp l 0,.hn]);have r2:(h.set l [AV.hp l 0,.hn]++[iI t])[l]? = some [.hp l 0,.hn]:=by rw[LP (by simpa using hl)];exact r1
   refine⟨_,hgo .hn _ _ _ e1 r1 e2 r2 rfl rfl,.inr ⟨by simpa using ht,h.length,by omega,?_,?_⟩⟩
   ·rw[L6,LC rfl,LC (by simp;omega)];simp
   ·rw[L6,if_neg (by omega),LS (by simp)];simp
 ·have e1:=hcc _ (.inr H);have hl:l<h.length:=cU H;have hlb:lb<h.length:=cU Hb;have hsame:h.set l [AV.hp l 0,.hs lb 0 s.length 1 false]=h:=NE fun i=>by
   rw[L6];split
   ·rename_i hi;subst hi;exact H.symm
   ·rfl
  rw[hsame]at e1;have e2:=yF s t hs hb h lb Hb;by_cases ht:t=[]
  ·subst ht;rw[LC rfl]at e2;refine⟨_,hgo _ _ _ _ e1 H e2 H rfl rfl,.inr ⟨by simpa using hs,lb,hne,?_,?_⟩⟩
   ·rw[L6,LC rfl,LC hl];simp
   ·rw[L6,if_neg (by omega),Hb];simp
  ·rw[if_neg ht]at e2;have r2:(h.set lb []++[iI (s++t)])[l]? = some [.hp l 0,.hs lb 0 s.length 1 false]:=by
    rw[LP (by simpa using hl),L6,if_neg hne,H]
   refine⟨_,hgo _ _ _ _ e1 H e2 r2 rfl rfl,.inr ⟨by simp[hs],h.length,by omega,?_,?_⟩⟩
   ·rw[L6,LC rfl,LC (by simp;omega)];simp
   ·rw[L6,if_neg (by omega),LS (by simp)];simp
def t24{h:Hp}{l:Nat}{s:aU}(H:Ga h l s)(hb:s.length<=140737488355328):∃h',ai pg 24 [.hp l 0] h= .ok (.str s) h':=by
 rw[dx aI (E:=ew 5) rfl];rcases H with⟨rfl,H⟩|⟨hs,lb,hne,H,Hb⟩
 ·refine⟨h,?_⟩;show (match h[l]? with|some cs=>_|none=>R.fail)=_;rcases H with H|H<;>rw[H]<;>rfl
 ·refine⟨h.set lb [],?_⟩;have h0:0<s.length:=Ms.2 hs;have hst:stA [AV.hp l 0,.hs lb 0 s.length 1 false]=some (some (lb,s.length)):=by
   show (bif (Nat.beq 0 0&&Nat.beq 1 1&&!false&&Nat.blt 0 s.length&&Nat.ble s.length 140737488355328)then some (some (lb,s.length))else none)=_;have h1:Nat.blt 0 s.length=true:=Of h0;have h2:Nat.ble s.length 140737488355328=true:=Of hb;rw[h1,h2];rfl
  show (match h[l]? with|some cs=>(match stA cs with|some none=>R.ok (AV.str []) h|some (some (lb,len))=>(match h[lb]? with|some bs=>(match (bif Nat.ble len bs.length then iA 5 (bs.take len)else none)with|some s=>.ok (.str s) (h.set lb [])|none=>.fail)|none=>.fail)|none=>.fail)|none=>R.fail)=_;rw[H];simp only[hst,Hb];have hlen:(iI s).length=s.length:=by simp[iI]
  have h2:Nat.ble s.length (iI s).length=true:=Of (by omega);have htk:(iI s).take s.length=iI s:=by rw[<- hlen,Ny]
  simp only[h2,LF,htk,yQ]
theorem lu:∀(l:List aU),(∀x∈l,x.length<=21)->(eg l).length<=22*l.length
 |[],_=>by simp[eg]
 |[a],h=>by have:=h a (by simp);simp[eg];omega
 |a:: b:: l,h=>by
  have ih:=lu (b:: l) (fun x hx=>h x (by simp[hx]));have ha:=h a (by simp);show (a++32:: eg (b:: l)).length<=_;simp only[L4,LQ]at ih |-;omega
def pD{len locals:Int}{i:Ins}(h:aV len locals i=true):(fL i).length<=200:=by
 obtain⟨p0,p1⟩:=iN h;have hw:=vG p0 p1;have hi:=gS i.a;have key:(∀x∈iy i,x.length<=21)/\(iy i).length<=9:=by
  unfold iy;split
  ·rename_i ho;have hs:bz i.s=true:=by
    simp[aV,ho]at h;exact h.1.1.1
   have:=db hs
   refine⟨fun x hx=>?_,by simp⟩;simp only[LU,MM,Ng]at hx;rcases hx with rfl|rfl<;>omega
  split
  ·rename_i ho;simp[aV,ho]at h;obtain⟨⟨⟨_,hs⟩,hm⟩,_⟩:=h
   have:=db hs
   refine⟨fun x hx=>?_,by simp⟩;simp only[LU,MM,Ng]at hx;rcases hx with rfl|rfl|rfl|rfl
   ·omega
   ·split
    ·simp
    ·rename_i hne
     have:=db (hm.resolve_left hne)
     omega
   ·omega
   ·omega
  split
  ·rename_i ho;have hn:d9 i.names=true:=by
    simp[aV,ho]at h;exact h.1.1.1
   simp only[d9,LD,LO,LB]at hn;refine⟨fun x hx=>?_,by simp;omega⟩;rcases LU.1 hx with rfl|hx
   ·omega
   ·have:=db (hn.1.1 x hx)
    omega
  split
  ·refine⟨fun x hx=>?_,by simp⟩;rw[L5]at hx;subst hx;omega
  ·refine⟨fun x hx=>?_,by simp⟩;simp only[LU,MM,Ng]at hx;rcases hx with rfl|rfl<;>omega
 have:=lu _ key.1
 unfold fL;simp only[L4,MP];omega
def Jc(i:Ins):aT 5 i.av=M.pure i.av:=by rw[ck (rfl:cI 5 i.av=true)];rfl
def KE(c:Cod):aT 4 c.av=M.pure c.av:=by rw[ck (rfl:cI 4 c.av=true)];rfl
theorem Dv(c:Cod):aj T 28 (.ip (ab c.av))=some c.av:=rfl
theorem BD(v2:List AV->M AV)(x1 x2:AV){k:Nat}(hk:k<=1000000){c:Cod}(K:CodOk c)(hc:c.code.length<=10000):∀(B A:List Ins)(h:Hp)(s:aU),A++B=c.code->Ga h 0 s->s.length+200*B.length<=1000000000000->
  ∃h',Ga h' 0 (s++(B.map fL).flatten)/\ah (L9_0 (ai pg) ah v2) [.hp 0 0,x1,x2,.int .i64 (k:Int),jW c.code,.int .i64 c.code.length,.int .i64 A.length] h=v2 [.hp 0 0,x1,x2,.int .i64 ((k+1:Nat):Int)] h'
 |[],A,h,s,e,H,_=>by
  rw[MW]at e;subst e;refine⟨h,by simpa using H,?_⟩;have h1:¬((c.code.length:Int)<(c.code.length:Int)):=by omega
  have hw:IntKind.i64.wrap ((k:Int)+1)=((k+1:Nat):Int):=by rw[a8 (by omega) (by omega)];omega
  rw[FL9_0];simp -implicitDefEqProofs only[L9_0,aw,aB,aH,am,ap,LB,if_neg h1,bD,hw]
 |i:: B,A,h,s,e,H,hb=>by
  have hlen:A.length+(B.length+1)=c.code.length:=by rw[<- e];simp
  have hi:=K.ins i (by rw[<- e];simp);have h1:(A.length:Int)<(c.code.length:Int):=by omega
  have hix:=Ik (l:=c.code) (n:=A.length) (by omega);rw[LK c.code A.length (by omega),show c.code[A.length]'(by omega)=i by simp[<- e]]at hix;have hw:IntKind.i64.wrap ((A.length:Int)+1)=((A++[i]).length:Nat):=by rw[a8 (by omega) (by omega)];simp
  have hl:=pD hi.1;simp only[LQ]at hb;obtain⟨h2,e2,H2⟩:=t21 H (fL i) (by omega);obtain⟨h3,H3,e3⟩:=BD v2 x1 x2 hk K hc B (A++[i]) h2 (s++fL i) (by rw[<- e];simp) H2 (by simp;omega);refine⟨h3,by simpa using H3,?_⟩;rw[FL9_0];simp -implicitDefEqProofs only[L9_0,aw,aB,aH,am,ap,LB,LC h1,hix,FJ,Jc,ax,t23 hi.1 hi.2];rw[aL e2];simp -implicitDefEqProofs only[bD,am,hw];exact e3
theorem uo{c:Cod}(K:CodOk c):(eg (ix c)++[10]).length<=100:=by
 have h1:=db K.name;have h2:=gS c.params;have h3:=gS c.locals
 have:=lu (ix c) (fun x hx=>by
  simp only[ix,LU,MM,Ng]at hx;rcases hx with rfl|rfl|rfl|rfl
  ·simp
  ·omega
  ·omega
  ·omega)
 have h4:(ix c).length=4:=rfl;simp only[L4,MP];omega
theorem BE{l:List Cod}(R:Cod->Bool)(hl:l.length<=10000)(hR:∀c∈l,ai pg 8 [c.av]=M.pure (.bool (R c))/\(R c=true->CodOk c)/\c.code.length<=10000):∀(B A:List Cod)(h:Hp)(s:aU),A++B=l->Ga h 0 s->s.length+2000200*B.length<=100000000000->
  ∃h',ah (L9_1 (ai pg) ah) [.hp 0 0,dp l,.int .i64 l.length,.int .i64 A.length] h= .ok (.str (if B.all R=true then s++iz B else[])) h'
 |[],A,h,s,e,H,hb=>by
  rw[MW]at e;subst e;have h1:¬((A.length:Int)<(A.length:Int)):=by omega
  obtain⟨h',e'⟩:=t24 H (by omega);refine⟨h',?_⟩;rw[FL9_1];simp -implicitDefEqProofs only[L9_1,aw,aB,aH,am,ap,LB,if_neg h1];rw[aL e'];simp[M.pure,iz]
 | c :: B,A,h,s,e,H,hb=>by
  have hlen:A.length+(B.length+1)=l.length:=by rw[<- e];simp
  obtain⟨r1,r2,r3⟩:=hR c (by rw[<- e];simp);have h1:(A.length:Int)<(l.length:Int):=by omega
  have hix:=Il (l:=l) (n:=A.length) (by omega);rw[LK l A.length (by omega),show l[A.length]'(by omega)=c by simp[<- e]]at hix;simp only[LQ]at hb;cases hrc:R c with
  |false=>
   refine⟨h,?_⟩;rw[FL9_1];simp -implicitDefEqProofs only[L9_1,aw,aB,aH,am,ap,LB,LC h1,hix,Dv,KE,ax,r1,hrc,kO,M0,Mc,MQ,Nt,LJ,Md];rfl
  | true=>
   have K:=r2 hrc;have hh:=uo K;have hn:=db K.name;have hp:=gS c.params;have hq:=gS c.locals;obtain⟨h2,e2,H2⟩:=t21 H (eg (ix c)++[10]) (by omega);have c1:ao T .add 9 (.str [102,117,110,99,32]) (.str c.func)=some (.str ([102,117,110,99,32]++c.func)):=jd _ _ (by simp;omega);have c2:=jd ([102,117,110,99,32]++c.func) [32] (by simp;omega);have c3:=jd ([102,117,110,99,32]++c.func++[32]) (cD c.params) (by simp;omega);have c4:=jd ([102,117,110,99,32]++c.func++[32]++cD c.params) [32] (by simp;omega);have c5:=jd ([102,117,110,99,32]++c.func++[32]++cD c.params++[32]) (cD c.locals) (by simp;omega);have c6:=jd ([102,117,110,99,32]++c.func++[32]++cD c.params++[32]++cD c.locals) [10] (by simp;omega);have hT:[102,117,110,99,32]++c.func++[32]++cD c.params++[32]++cD c.locals++[10]=eg (ix c)++[10]:=by simp[ix,eg]
   rw[hT]at c6;obtain⟨h3,H3,e3⟩:=BD (ah (L9_1 (ai pg) ah)) (dp l) (.int .i64 l.length) (k:=A.length) (by omega) K r3 c.code [] h2 _ rfl H2 (by simp only[L4]at hh |-;omega);have hcl:((c.code.map fL).flatten).length<=200*c.code.length:=by
    have key:∀is:List Ins,(∀i∈is,i∈c.code)->((is.map fL).flatten).length<=200*is.length:=by
     intro is
     induction is with
     |nil=>intro _;simp
     |cons i is ih=>
      intro hs;have a1:=pD (K.ins i (hs i (by simp))).1;have a2:=ih (fun j hj=>hs j (by simp[hj]));simp only[Mi,OH,L4,LQ];omega
    exact key c.code fun i hi=>hi
   have ih:=BE R hl hR B (A++[c]) h3 _ (by rw[<- e];simp) H3 (by simp only[L4]at hh |-;omega);obtain⟨h4,e4⟩:=ih;refine⟨h4,?_⟩;rw[FL9_1];simp -implicitDefEqProofs only[L9_1,aw,aB,aH,am,ap,LB,LC h1,hix,Dv,KE,ax,r1,hrc,kO,ME,LJ,Md,fK0,G7,fK1,G8,fK2,It,fK3,vM,ol,c1,c2,c3,c4,c5,c6,t22 c.params K.par.1 K.par.2,t22 c.locals K.loc.1 K.loc.2];rw[aL e2];have e3':ah (L9_0 (ai pg) ah (ah (L9_1 (ai pg) ah))) [.hp 0 0,dp l,.int .i64 l.length,.int .i64 A.length,jW c.code,.int .i64 c.code.length,.int .i64 0] h2=_:=e3;rw[e3'];have e5:((A++[c]).length:Nat)=A.length+1:=by simp
   rw[e5]at e4;rw[e4];simp only[MQ,hrc,MV];cases B.all R<;>simp[iz,lI]
theorem t9{l:List Cod}(R:Cod->Bool)(hl:l.length<=10000)(hR:∀c∈l,ai pg 8 [c.av]=M.pure (.bool (R c))/\(R c=true->CodOk c)/\c.code.length<=10000):ai pg 9 [dp l]=M.pure (.str (if l.all R=true then iz l else[])):=by
 have hb0:Ga [[AV.nilb 71,.hn]] 0 []:=.inl ⟨rfl,.inl rfl⟩;obtain⟨h',e'⟩:=BE R hl hR l [] [[AV.nilb 71,.hn]] [] rfl hb0 (by simp;omega);have nb:uN 71 [.nilp,.hn] []= .ok (.hp 0 0) [[AV.nilb 71,.hn]]:=rfl;have hcl:cl az (dp l)=dp l:=by simp[dp,cl,dk az Cod.av (mK az)]
 have key:S9 (ai pg) ah (dp l) []= .ok (.str (if l.all R=true then iz l else[])) h':=by
  simp -implicitDefEqProofs only[S9];rw[aL nb];simp -implicitDefEqProofs only[sL,am];exact e'
 rw[C9,hcl];funext h;unfold aM;rw[key];rfl
def Iq(i:Ins)(h:¬(i.op=0\/i.op=1\/i.op=2\/i.op=16))(h2:¬(i.op=4\/i.op=5\/i.op=6\/i.op=7\/i.op=8)):∀b,b=decide (i.op=9\/i.op=13\/i.op=15\/i.op=17)->
  K49_0 (ai pg) ah [.ip (ab i.av),.int .i64 i.op,.bool b]=M.pure (.tup [.int .i64 (ba i).1,.int .i64 (ba i).2]):=by
 intro b hb;unfold ba;rw[if_neg h,if_neg h2];by_cases h9:i.op=9\/i.op=13\/i.op=15\/i.op=17
 ·rw[Mj h9]at hb;subst hb;rw[LC h9];simp -implicitDefEqProofs only[K49_0,aw,aB,ap,Mc]
 rw[Mp h9]at hb;subst hb;rw[if_neg h9];simp -implicitDefEqProofs only[K49_0,aw,aB,ap,LJ,Md,eV,am,LB];by_cases h12:i.op=12
 ·simp -implicitDefEqProofs only[LC h12,fJ4,Jh,d8,am]
 simp -implicitDefEqProofs only[if_neg h12];by_cases h14:i.op=14
 ·simp -implicitDefEqProofs only[LC h14,fJ1,GA,am]
 simp -implicitDefEqProofs only[if_neg h14];by_cases h10:i.op=10
 ·simp -implicitDefEqProofs only[LC h10]
 ·simp -implicitDefEqProofs only[if_neg h10]
def Ir(i:Ins)(h:¬(i.op=0\/i.op=1\/i.op=2\/i.op=16)):∀b,b=decide (i.op=4\/i.op=5\/i.op=6\/i.op=7\/i.op=8)->
  K49_1 (ai pg) ah [.ip (ab i.av),.int .i64 i.op,.bool b]=M.pure (.tup [.int .i64 (ba i).1,.int .i64 (ba i).2]):=by
 intro b hb;by_cases h2:i.op=4\/i.op=5\/i.op=6\/i.op=7\/i.op=8
 ·rw[Mj h2]at hb;subst hb;unfold ba;rw[if_neg h,LC h2];simp -implicitDefEqProofs only[K49_1,aw,aB,ap,Mc]
 rw[Mp h2]at hb;subst hb;have k:=Iq i h h2;simp -implicitDefEqProofs only[K49_1,aw,aB,ap,LJ,Md,jn,eV,am,LB];by_cases h9:i.op=9
 ·rw[LC h9];exact k _ (by simp[h9])
 rw[if_neg h9];by_cases h13:i.op=13
 ·rw[LC h13];exact k _ (by simp[h13])
 rw[if_neg h13];by_cases h15:i.op=15
 ·rw[LC h15];exact k _ (by simp[h15])
 rw[if_neg h15];exact k _ (by simp[h9,h13,h15])
def Is(i:Ins):∀b,b=decide (i.op=0\/i.op=1\/i.op=2\/i.op=16)->
  K49_2 (ai pg) ah [.ip (ab i.av),.int .i64 i.op,.bool b]=M.pure (.tup [.int .i64 (ba i).1,.int .i64 (ba i).2]):=by
 intro b hb;by_cases h:i.op=0\/i.op=1\/i.op=2\/i.op=16
 ·rw[Mj h]at hb;subst hb;unfold ba;rw[LC h];simp -implicitDefEqProofs only[K49_2,aw,aB,ap,Mc]
 rw[Mp h]at hb;subst hb;have k:=Ir i h;simp -implicitDefEqProofs only[K49_2,aw,aB,ap,LJ,Md,jn,eV,am,LB];by_cases h4:i.op=4
 ·rw[LC h4];exact k _ (by simp[h4])
 rw[if_neg h4];by_cases h5:i.op=5
 ·rw[LC h5];exact k _ (by simp[h5])
 rw[if_neg h5];by_cases h6:i.op=6
 ·rw[LC h6];exact k _ (by simp[h6])
 rw[if_neg h6];by_cases h7:i.op=7
 ·rw[LC h7];exact k _ (by simp[h7])
 rw[if_neg h7];exact k _ (by simp[h4,h5,h6,h7])
def t49(i:Ins):ai pg 49 [i.av]=M.pure (.tup [.int .i64 (ba i).1,.int .i64 (ba i).2]):=by
 have k:=Is i;have key:S49 (ai pg) ah i.av=M.pure (.tup [.int .i64 (ba i).1,.int .i64 (ba i).2]):=by
  simp -implicitDefEqProofs only[S49,fJ0,FI,am,ap,jn,eV,LB];by_cases h0:i.op=0
  ·rw[LC h0];exact k _ (by simp[h0])
  rw[if_neg h0];by_cases h1:i.op=1
  ·rw[LC h1];exact k _ (by simp[h1])
  rw[if_neg h1];by_cases h2:i.op=2
  ·rw[LC h2];exact k _ (by simp[h2])
  rw[if_neg h2];exact k _ (by simp[h0,h1,h2])
 rw[C49,oQ,key];exact cg fun g=>by simp[cl,dn]
def t50(c:Cod){k:Nat}(hk:k<c.code.length)(hb:c.code.length<=1000000):ai pg 50 [c.av,.int .i64 (k:Int)]=M.pure (ints (cV c.code[k] k)):=by
 have hix:=Ik hk;rw[LK c.code k hk]at hix;have hw:IntKind.i64.wrap ((k:Int)+1)=k+1:=a8 (by omega) (by omega);have b1:∀a:Int,aS T 60 1 [(0,.int .i64 a)]=some (ints [a]):=fun _=>rfl;have b2:∀a b:Int,aS T 60 2 [(0,.int .i64 a),(1,.int .i64 b)]=some (ints [a,b]):=fun _ _=>rfl;have key:S50 (ai pg) ah c.av (.int .i64 (k:Int))=M.pure (ints (cV c.code[k] k)):=by
  generalize c.code[k]=i at hix |-;unfold cV;simp -implicitDefEqProofs only[S50,fK3,vM,am,hix,FJ,Jc,ax,fJ0,FI,eV,ap,LB];by_cases h18:i.op=18
  ·simp -implicitDefEqProofs only[LC h18];rfl
  simp -implicitDefEqProofs only[if_neg h18];by_cases h10:i.op=10
  ·simp -implicitDefEqProofs only[LC h10,fJ1,GA,am,b1]
  simp -implicitDefEqProofs only[if_neg h10];by_cases h11:i.op=11
  ·simp -implicitDefEqProofs only[LC h11,fJ1,GA,am,bD,hw,b2]
  ·simp -implicitDefEqProofs only[if_neg h11,bD,am,hw,b1]
 rw[C50,mK,show cl az (.int .i64 (k:Int))= .int .i64 (k:Int)from rfl,key];exact cg fun g=>by simp
def Hr(hl:List Int):Hp:=[hl.map (AV.int .i64)]
theorem py{n k:Nat}(h:k<n):ak T 60 (.hs 0 0 n 1 false) (.int .i64 (k:Int))=some (.hp 0 (0+k*1)):=by
 have e:ak T 60 (.hs 0 0 n 1 false) (.int .i64 (k:Int))=if 0<=(k:Int)/\(k:Int)<(n:Int)then some (.hp 0 (0+(k:Int).toNat*1))else none:=rfl;rw[e,LC (by omega),LH]
def mZ{hl:List Int}{k:Nat}(h:k<hl.length):bj T 3 (.hp 0 (0+k*1)) (Hr hl)= .ok (.int .i64 hl[k]!) (Hr hl):=by
 refine fX (T:=T) (t:=3) rfl rfl (cs:=hl.map (AV.int .i64)) rfl ?_;rw[Ma,M3,MH,LY h,LK hl k h];rfl
def setCells_one(cs:List AV)(k:Nat)(x:AV)(h:k<cs.length):setCells cs k [x]=cs.set k x:=by
 unfold setCells;rw[List.set_eq_take_append_cons_drop,LC h];simp
def GW{hl:List Int}{k:Nat}(h:k<hl.length)(v:Int):bI T 3 (.hp 0 (0+k*1)) (.int .i64 v) (Hr hl)= .ok (.tup []) (Hr (hl.set k v)):=by
 have st:=gM (T:=T) (t:=3) rfl (v:=.int .i64 v) (h:=Hr hl) (l:=0) (k:=0+k*1) (cs:=hl.map (AV.int .i64)) rfl rfl (show 0+k*1+1<=(hl.map (AV.int .i64)).length by simp;omega) (by decide);rw[st];show R.ok (AV.tup []) [setCells (hl.map (AV.int .i64)) (0+k*1) [.int .i64 v]]=_;rw[Ma,M3,setCells_one _ _ _ (by simpa using h)];unfold Hr;rw[List.map_set]
theorem Dq(a b:Int):ao T .neq 3 (.int .i64 a) (.int .i64 b)=some (.bool (!decide (a=b))):=rfl
theorem GC(v:Int):aj T 3 (.ip (ab (.int .i64 v)))=some (.int .i64 v):=rfl
theorem KB(v:Int):aS T 60 1 [(0,.int .i64 v)]=some (ints [v]):=rfl
theorem m6(v50:List AV->M AV){c:Cod}{n:Nat}(hn:c.code.length=n)(hnb:n<=1000000){k:Nat}(hk:k<n){nd gv:Int}(h0:0<=nd)(g0:0<=gv)(g1:gv<=1){nx:List Int}(hnx:nx.length<=2)(hx:∀v∈nx,0<=v/\v<=n):
  ∀(B A hl td:List Int),A++B=nx->HInv n hl->nd<=hl[k]! ->td.length+B.length<=10000000->
  (∃h',eF n k nd gv B hl td=none/\ah (L18_0 (ai pg) ah v50) [.ip (ab c.av),.hs 0 0 n 1 false,ints td,.int .i64 (k:Int),.int .i64 nd,.int .i64 gv,ints nx,.int .i64 nx.length,.int .i64 A.length] (Hr hl)= .ok (.tup [.sl [],.bool false]) h')\/
  (∃hl' td',eF n k nd gv B hl td=some (hl',td')/\ah (L18_0 (ai pg) ah v50) [.ip (ab c.av),.hs 0 0 n 1 false,ints td,.int .i64 (k:Int),.int .i64 nd,.int .i64 gv,ints nx,.int .i64 nx.length,.int .i64 A.length] (Hr hl)=v50 [.ip (ab c.av),.hs 0 0 n 1 false,ints td'] (Hr hl'))
 |[],A,hl,td,e,H,hd,hb=>by
  rw[MW]at e;subst e;refine .inr ⟨hl,td,rfl,?_⟩;have h1:¬((A.length:Int)<(A.length:Int)):=by omega
  rw[FL18_0];simp -implicitDefEqProofs only[L18_0,aw,aB,aH,am,ap,LB,if_neg h1]
 | v :: B,A,hl,td,e,H,hd,hb=>by
  have hlen:A.length+(B.length+1)=nx.length:=by rw[<- e];simp
  have h1:(A.length:Int)<(nx.length:Int):=by omega
  have hix:=FV (l:=nx) (n:=(A.length:Int)) (by omega) h1;have hxx:nx[A.length]! = v:=by rw[LK nx A.length (by omega)];simp[<- e]
  rw[LH,hxx]at hix;have hv:=hx v (by rw[<- e];simp);have hw:IntKind.i64.wrap ((A.length:Int)+1)=((A++[v]).length:Nat):=by rw[a8 (by omega) (by omega)];simp
  simp only[LQ]at hb;have hcl:((c.code.length:Nat):Int)=n:=by rw[hn]
  by_cases hvn:v=n
  ·refine .inl ⟨Hr hl,by simp[eF,hvn],?_⟩;rw[FL18_0];simp -implicitDefEqProofs only[L18_0,aw,aB,aH,am,ap,LB,LC h1,hix,GC,fK3,vM,ol,hcl,eV,LC hvn];rfl
  obtain⟨p,rfl⟩:∃p:Nat,v=(p:Int):=⟨v.toNat,by omega⟩;have hp:p<n:=by omega
  have hpl:p<hl.length:=by rw[H.len];exact hp
  have hkl:k<hl.length:=by rw[H.len];exact hk
  have hkk:=H.hi k hk;have hs1:IntKind.i64.wrap (hl[k]! - nd)=hl[k]! - nd:=a8 (by omega) (by omega);have hs2:IntKind.i64.wrap (hl[k]! - nd+gv)=hl[k]! - nd+gv:=a8 (by omega) (by omega);by_cases hneg:hl[p]! < 0
  ·have hI:=H.set hp hneg (x:=hl[k]! - nd+gv) (by omega) (by omega);have hpk:¬p=k:=fun e=>by rw[e]at hneg;omega
   have ih:=m6 v50 hn hnb hk h0 g0 g1 hnx hx B (A++[(p:Int)]) (hl.set p (hl[k]! - nd+gv)) (td++[(p:Int)]) (by rw[<- e];simp) hI (by rw[jV hpl hkl,if_neg hpk];exact hd) (by simp;omega);have hap:dm T 60 (ints td) (ints [(p:Int)])=some (ints (td++[(p:Int)])):=Jp (by simp;omega);have eS:eF n k nd gv ((p:Int):: B) hl td=eF n k nd gv B (hl.set p (hl[k]! - nd+gv)) (td++[(p:Int)]):=by
    simp only[eF,LH];rw[if_neg hvn,LC hneg]
   have eL:ah (L18_0 (ai pg) ah v50) [.ip (ab c.av),.hs 0 0 n 1 false,ints td,.int .i64 (k:Int),.int .i64 nd,.int .i64 gv,ints nx,.int .i64 nx.length,.int .i64 A.length] (Hr hl)=ah (L18_0 (ai pg) ah v50) [.ip (ab c.av),.hs 0 0 n 1 false,ints (td++[(p:Int)]),.int .i64 (k:Int),.int .i64 nd,.int .i64 gv,ints nx,.int .i64 nx.length,.int .i64 (A++[(p:Int)]).length] (Hr (hl.set p (hl[k]! - nd+gv))):=by
    rw[FL18_0];simp -implicitDefEqProofs only[L18_0,aw,aB,aH,am,ap,LB,LC h1,hix,GC,fK3,vM,ol,hcl,eV,if_neg hvn,py hp,py hk];rw[aL (mZ hpl)];simp -implicitDefEqProofs only[aH,am,ap,LB,LC hneg];rw[aL (mZ hkl)];simp -implicitDefEqProofs only[gd,bD,am,hs1,hs2];rw[aL (GW hpl _)];simp -implicitDefEqProofs only[KB,am,hap,bD,hw]
   rw[eS,eL];exact ih
  ·by_cases hq:hl[p]! = hl[k]! - nd+gv
   ·have ih:=m6 v50 hn hnb hk h0 g0 g1 hnx hx B (A++[(p:Int)]) hl td (by rw[<- e];simp) H hd (by omega);have eS:eF n k nd gv ((p:Int):: B) hl td=eF n k nd gv B hl td:=by
     simp only[eF,LH];rw[if_neg hvn,if_neg hneg,if_neg (by simpa using hq)]
    have eL:ah (L18_0 (ai pg) ah v50) [.ip (ab c.av),.hs 0 0 n 1 false,ints td,.int .i64 (k:Int),.int .i64 nd,.int .i64 gv,ints nx,.int .i64 nx.length,.int .i64 A.length] (Hr hl)=ah (L18_0 (ai pg) ah v50) [.ip (ab c.av),.hs 0 0 n 1 false,ints td,.int .i64 (k:Int),.int .i64 nd,.int .i64 gv,ints nx,.int .i64 nx.length,.int .i64 (A++[(p:Int)]).length] (Hr hl):=by
     rw[FL18_0];simp -implicitDefEqProofs only[L18_0,aw,aB,aH,am,ap,LB,LC h1,hix,GC,fK3,vM,ol,hcl,eV,if_neg hvn,py hp,py hk];rw[aL (mZ hpl)];simp -implicitDefEqProofs only[aH,am,ap,LB,if_neg hneg];rw[aL (mZ hpl),aL (mZ hkl)];simp -implicitDefEqProofs only[gd,bD,am,hs1,hs2,Dq,Mj hq,ME,LJ,Md,ap,hw]
    rw[eS,eL];exact ih
   ·refine .inl ⟨Hr hl,?_,?_⟩
    ·simp only[eF,LH];rw[if_neg hvn,if_neg hneg,LC hq]
    ·rw[FL18_0];simp -implicitDefEqProofs only[L18_0,aw,aB,aH,am,ap,LB,LC h1,hix,GC,fK3,vM,ol,hcl,eV,if_neg hvn,py hp,py hk];rw[aL (mZ hpl)];simp -implicitDefEqProofs only[aH,am,ap,LB,if_neg hneg];rw[aL (mZ hpl),aL (mZ hkl)];simp -implicitDefEqProofs only[gd,bD,am,hs1,hs2,Dq,Mp hq,M0,Mc,ap];rfl
def qT{α β γ:Type}(m:M α)(f:α->M β)(g:β->M γ):ae (ae m f) g=ae m fun a=>ae (f a) g:=by
 funext h;simp only[ae];cases m h<;>rfl
def DO{n:Nat}{locals:Int}{i:Ins}(h:aV n locals i=true){k:Nat}(hk:k<n):∀v∈cV i k,0<=v/\v<=n:=by
 intro v hv;unfold cV at hv;split at hv
 ·cases hv
 split at hv
 ·rename_i h10;simp[aV,h10]at h;rw[L5]at hv;omega
 split at hv
 ·rename_i h11;simp[aV,h11]at h;simp only[LU,MM,Ng]at hv;omega
 ·rw[L5]at hv;omega
theorem uJ{c:Cod}{n:Nat}(hn:c.code.length=n)(hnb:n<=1000000)(hf:∀i∈c.code,aV n c.locals i=true):∀(f:Nat)(hl td:List Int),HInv n hl->td.length+2*kN hl<f->f<=4000000->(∀v∈td,0<=v/\v<n)->
  (∃h',kP c.code f hl td=none/\ah (L18_1 (ai pg) ah) [.ip (ab c.av),.hs 0 0 n 1 false,ints td] (Hr hl)= .ok (.tup [.sl [],.bool false]) h')\/
  (∃hl',kP c.code f hl td=some hl'/\hl'.length=n/\ah (L18_1 (ai pg) ah) [.ip (ab c.av),.hs 0 0 n 1 false,ints td] (Hr hl)= .ok (.tup [.hs 0 0 n 1 false,.bool true]) (Hr hl'))
 |0,hl,td,H,hm,_,ht=>by omega
 |f+1,hl,[],H,hm,_,ht=>by
  refine .inr ⟨hl,rfl,H.len,?_⟩;have h1:¬((0:Int)<(([]:List Int).length:Int)):=by simp
  rw[FL18_1];simp -implicitDefEqProofs only[L18_1,aw,aB,iZ,gH,am,ap,LB,if_neg h1];rfl
 | f+1,hl,v:: td,H,hm,hfb,ht=>by
  have hv:=ht v (by simp);obtain⟨k,rfl⟩:∃k:Nat,v=(k:Int):=⟨v.toNat,by omega⟩;have hk:k<n:=by omega
  have hkc:k<c.code.length:=by omega
  have hkl:k<hl.length:=by rw[H.len];exact hk
  have hlen:(0:Int)<(((k:Int):: td).length:Int):=by simp only[LQ];omega
  have hi0:ak T 60 (ints ((k:Int):: td)) (.int .i64 0)=some (.ip (ab (.int .i64 (k:Int)))):=FV (l:=(k:Int):: td) (n:=0) (by omega) hlen;have hcut:AL T 60 (ints ((k:Int):: td)) (some (.int .i64 1))=some (ints td):=by
   have:=ni (T:=T) (t:=60) (e:=3) rfl rfl rfl (((k:Int):: td).map (AV.int .i64)) (rD _) (a:=1) (by omega) (by simp only[M2,LQ];omega)
   exact this
  have hix:=Ik hkc;rw[LK c.code k hkc]at hix;have hi:=hf c.code[k] (LM hkc);obtain⟨b1,b2,b3,b4⟩:=uM hi;have hB:=t50 c hkc (by omega);have hN:=t49 c.code[k];have hck:c.code[k]! = c.code[k]:=LK c.code k hkc;simp only[LQ]at hm;have hnl:(cV c.code[k] k).length<=2:=by
   unfold cV
   repeat' split
   all_goals simp
  have hnx:=DO hi hk;have z1:∀m:M (List AV),ay (.bool true) false 1 m=M.pure [.tup []]:=fun _=>rfl;have z2:∀m:M (List AV),ay (.tup []) true 1 m=M.pure [.tup []]:=fun _=>rfl;have z3:∀m:M (List AV),ay (.bool false) true 1 m=M.pure [.tup []]:=fun _=>rfl;have z4:∀m:M (List AV),ay (.bool false) false 1 m=m:=fun _=>rfl;have z5:∀m:M (List AV),ay (.bool true) true 1 m=m:=fun _=>rfl;by_cases hlt:hl[k]! < (ba c.code[k]).1
  ·refine .inl ⟨Hr hl,?_,?_⟩
   ·simp only[kP,LH,hck];rw[LC (.inl hlt)]
   ·rw[FL18_1];simp -implicitDefEqProofs only[L18_1,aw,aB,iZ,gH,am,ap,LB,LC hlen,hi0,GC,hcut,fK3,vM,hix,FJ,hN,ax,cn,LV,Mo,py hk];rw[aL (mZ hkl)];simp -implicitDefEqProofs only[aH,am,Mj hlt,z1,z2,ax,aw,ct,ap,Mc];rfl
  by_cases h18:c.code[k].op=18/\hl[k]! ≠1
  ·refine .inl ⟨Hr hl,?_,?_⟩
   ·simp only[kP,LH,hck];rw[LC (.inr h18)]
   ·rw[FL18_1];simp -implicitDefEqProofs only[L18_1,aw,aB,iZ,gH,am,ap,LB,LC hlen,hi0,GC,hcut,fK3,vM,hix,FJ,hN,ax,cn,LV,Mo,py hk];rw[aL (mZ hkl)];simp -implicitDefEqProofs only[aH,am,Mp hlt,z4,fJ0,FI,eV,Mj h18.1,ax,aw,z5,qT];rw[aL (mZ hkl)];simp -implicitDefEqProofs only[Dq,Mp h18.2,M0,am,ax,aw,ct,dB,ap,Mc];rfl
  have hd:(ba c.code[k]).1<=hl[k]!:=by omega
  have eC:ah (L18_1 (ai pg) ah) [.ip (ab c.av),.hs 0 0 n 1 false,ints ((k:Int):: td)] (Hr hl)=ah (L18_0 (ai pg) ah (ah (L18_1 (ai pg) ah))) [.ip (ab c.av),.hs 0 0 n 1 false,ints td,.int .i64 (k:Int),.int .i64 (ba c.code[k]).1,.int .i64 (ba c.code[k]).2,ints (cV c.code[k] k),.int .i64 (cV c.code[k] k).length,.int .i64 0] (Hr hl):=by
   rw[FL18_1];simp -implicitDefEqProofs only[L18_1,aw,aB,iZ,gH,am,ap,LB,LC hlen,hi0,GC,hcut,fK3,vM,hix,FJ,hN,ax,cn,LV,Mo,py hk];rw[aL (mZ hkl)];by_cases h8:c.code[k].op=18
   ·have h1:hl[k]! = 1:=NX fun e=>h18 ⟨h8,e⟩;simp -implicitDefEqProofs only[aH,am,Mp hlt,z4,fJ0,FI,eV,Mj h8,ax,aw,z5,qT];rw[aL (mZ hkl)];simp -implicitDefEqProofs only[Dq,Mj h1,ME,am,ax,aw,ct,dB,ap,LJ,Md,Dv,hB,iZ]
   ·simp -implicitDefEqProofs only[aH,am,Mp hlt,z4,fJ0,FI,eV,Mp h8,ax,aw,z3,ct,dB,ap,LJ,Md,Dv,hB,iZ]
  have eR:kP c.code (f+1) hl ((k:Int):: td)=match eF n k (ba c.code[k]).1 (ba c.code[k]).2 (cV c.code[k] k) hl td with|none=>none|some (hl',td')=>kP c.code f hl' td':=by
   simp only[kP,LH,hck,hn];rw[if_neg (fun e=>e.elim hlt h18)];cases eF n k (ba c.code[k]).1 (ba c.code[k]).2 (cV c.code[k] k) hl td<;>rfl
  rw[eC,eR];have hst:=m6 (ah (L18_1 (ai pg) ah)) hn hnb hk b1 b3 b4 hnl hnx (cV c.code[k] k) [] hl td rfl H hd (by omega);rcases hst with⟨h',s1,s2⟩|⟨hl',td',s1,s2⟩
  ·exact .inl ⟨h',by rw[s1],s2⟩
  ·have hin:=qj hk b1 b3 b4 _ hl td H hd hnx (fun x h=>ht x (by simp[h])) s1;have ih:=uJ hn hnb hf f hl' td' hin.1 (by omega) (by omega) hin.2.2;rw[s1];have s2':ah (L18_0 (ai pg) ah (ah (L18_1 (ai pg) ah))) [.ip (ab c.av),.hs 0 0 n 1 false,ints td,.int .i64 (k:Int),.int .i64 (ba c.code[k]).1,.int .i64 (ba c.code[k]).2,ints (cV c.code[k] k),.int .i64 (cV c.code[k] k).length,.int .i64 0] (Hr hl)=_:=s2;rw[s2'];exact ih
def D5(a b:Nat):((List.replicate a (-1:Int))++List.replicate (b+1) 0).set a (-1)=List.replicate (a+1) (-1)++List.replicate b 0:=by
 rw[List.set_append_right _ _ (by simp),NI,Nv,Ot,List.set_cons_zero,List.replicate_succ',Mz];rfl
theorem ya{c:Cod}{n:Nat}(hn:c.code.length=n)(hnb:n<=1000000)(hnm:∀i∈c.code,i.names.length<=1000000):∀(B A:List Ins),A++B=c.code->
  (B.all (aV n c.locals)=false/\∃h',ah (L18_2 (ai pg) ah) [.ip (ab c.av),.hs 0 0 n 1 false,jW c.code,.int .i64 n,.int .i64 A.length] (Hr (List.replicate A.length (-1)++List.replicate B.length 0))= .ok (.tup [.sl [],.bool false]) h')\/
  (B.all (aV n c.locals)=true/\ah (L18_2 (ai pg) ah) [.ip (ab c.av),.hs 0 0 n 1 false,jW c.code,.int .i64 n,.int .i64 A.length] (Hr (List.replicate A.length (-1)++List.replicate B.length 0))=ah (L18_2 (ai pg) ah) [.ip (ab c.av),.hs 0 0 n 1 false,jW c.code,.int .i64 n,.int .i64 n] (Hr (List.replicate n (-1))))
 |[],A,e=>by
  rw[MW]at e;subst e;refine .inr ⟨rfl,?_⟩;rw[hn];simp
 | i:: B,A,e=>by
  have hlen:A.length+(B.length+1)=n:=by rw[<- hn,<- e];simp
  have h1:(A.length:Int)<(n:Int):=by omega
  have hix:=Ik (l:=c.code) (n:=A.length) (by omega);rw[LK c.code A.length (by omega),show c.code[A.length]'(by omega)=i by simp[<- e]]at hix;have hw:IntKind.i64.wrap ((A.length:Int)+1)=((A++[i]).length:Nat):=by rw[a8 (by omega) (by omega)];simp
  have hF:=t48 c i (hnm i (by rw[<- e];simp));rw[hn]at hF;have hst:=GW (hl:=List.replicate A.length (-1)++List.replicate (B.length+1) 0) (k:=A.length) (by simp) (-1);rw[D5]at hst;cases hf:aV n c.locals i with
  |false=>
   refine .inl ⟨by simp[hf],Hr (List.replicate A.length (-1)++List.replicate (i:: B).length 0),?_⟩;rw[FL18_2];simp -implicitDefEqProofs only[L18_2,aw,aB,aH,am,ap,LB,LC h1,hix,FJ,Jc,ax,Dv,hF,hf,kO,M0,Mc];rfl
  | true=>
   have ih:=ya hn hnb hnm B (A++[i]) (by rw[<- e];simp);have eA:(A++[i]).length=A.length+1:=by simp
   rw[eA]at ih hw;have eC:ah (L18_2 (ai pg) ah) [.ip (ab c.av),.hs 0 0 n 1 false,jW c.code,.int .i64 n,.int .i64 A.length] (Hr (List.replicate A.length (-1)++List.replicate (i:: B).length 0))=ah (L18_2 (ai pg) ah) [.ip (ab c.av),.hs 0 0 n 1 false,jW c.code,.int .i64 n,.int .i64 ((A.length+1:Nat):Int)] (Hr (List.replicate (A.length+1) (-1)++List.replicate B.length 0)):=by
    rw[FL18_2,LQ];simp -implicitDefEqProofs only[L18_2,aw,aB,aH,am,ap,LB,LC h1,hix,FJ,Jc,ax,Dv,hF,hf,kO,ME,LJ,Md,py (n:=n) (k:=A.length) (by omega)];rw[aL hst];simp -implicitDefEqProofs only[bD,am,hw]
   rw[eC];simp only[MQ,hf,MV];exact ih
def A5(hl:List Int){n:Nat}(hn:hl.length=n):fV 6 (Hr hl) (.tup [.hs 0 0 n 1 false,.bool true])= .tup [ints hl,.bool true]:=by
 have hc:(hl.map (AV.int .i64)).all bn=true:=by
  rw[LO];intro x hx;obtain⟨v,_,rfl⟩:=Mu.1 hx;rfl
 have h1:(decide (0+n*1<=(hl.map (AV.int .i64)).length)&&decide (0<1)&&(false||(Nat.beq 1 1&&(hl.map (AV.int .i64)).all bn)))=true:=by
  rw[hc];simp[hn]
 unfold fV;simp only[cl,dn,Hr,LV,h1,LF,LL];congr 2;unfold ints;congr 1;apply Ob
 ·simp[hn]
 ·intro i h2 h3;have hi:i<hl.length:=by simpa using h3
  have hg:nth (hl.map (AV.int .i64)) (0+i*1)= .int .i64 hl[i]:=by
   rw[Ma,M3];unfold nth;simp[hi]
  simp only[OP,Oy,hg];rfl
def Jd:Option (List Int)->AV
 |none=>.tup [.sl [],.bool false]
 |some hl=>.tup [ints hl,.bool true]
def zy(n:Nat)(h:0<n):HInv n (0:: List.replicate (n-1) (-1)):=by
 have hneg:kN (0:: List.replicate (n-1) (-1))=n-1:=by
  unfold kN;rw[OV (by simp),List.countP_replicate];simp
 have hl:(0:: List.replicate (n-1) (-1:Int)).length=n:=by simp;omega
 have hv:∀j,j<n->(0:: List.replicate (n-1) (-1:Int))[j]! = 0\/(0:: List.replicate (n-1) (-1:Int))[j]! = -1:=by
  intro j hj;rw[LK _ j (by rw[hl];exact hj)];cases j with
  |zero=>exact .inl rfl
  |succ j=>exact .inr (by simp)
 refine⟨hl,fun j hj=>?_,fun j hj=>?_⟩
 ·rcases hv j hj with e|e<;>omega
 ·rw[hneg];rcases hv j hj with e|e<;>omega
def t18(c:Cod)(hnb:c.code.length<=1000000)(hnm:∀i∈c.code,i.names.length<=1000000):ai pg 18 [c.av]=M.pure (Jd (cj c)):=by
 have hN:=t15 c.func;have key:∃h',∃v,S18 (ai pg) ah c.av []= .ok v h'/\fV 6 h' v=Jd (cj c):=by
  have hh:lp c= !((((!bz c.func||decide (c.params<0))||decide (6<c.params))||decide (c.locals<c.params))||decide ((c.code.length:Int)=0)):=by
   have e5:decide (c.code≠[])= !decide ((c.code.length:Int)=0):=by cases c.code<;>simp;omega
   have e2:decide (0<=c.params)= !decide (c.params<0):=by rw[<- On];exact MG.2 (by omega)
   have e3:decide (c.params<=6)= !decide (6<c.params):=by rw[<- On];exact MG.2 (by omega)
   have e4:decide (c.params<=c.locals)= !decide (c.locals<c.params):=by rw[<- On];exact MG.2 (by omega)
   unfold lp;rw[e2,e3,e4,e5];simp[Bool.not_or]
  cases hd:lp c with
  | false=>
   rw[hd]at hh;have hb:((((!bz c.func||decide (c.params<0))||decide (6<c.params))||decide (c.locals<c.params))||decide ((c.code.length:Int)=0))=true:=by
    cases hx:((((!bz c.func||decide (c.params<0))||decide (6<c.params))||decide (c.locals<c.params))||decide ((c.code.length:Int)=0))with
    |true=>rfl
    |false=>rw[hx]at hh;cases hh
   refine⟨[],.tup [.sl [],.bool false],?_,?_⟩
   ·simp -implicitDefEqProofs only[S18,fK0,G7,fK1,G8,fK2,It,fK3,vM,ol,am,hN,ax,kO,aH,gH,eV,bA,aw,ic,hb,ap,Mc];rfl
   ·unfold cj;rw[hd,if_neg (by simp)];rfl
  | true=>
   rw[hd]at hh;have hb:((((!bz c.func||decide (c.params<0))||decide (6<c.params))||decide (c.locals<c.params))||decide ((c.code.length:Int)=0))=false:=by
    cases hx:((((!bz c.func||decide (c.params<0))||decide (6<c.params))||decide (c.locals<c.params))||decide ((c.code.length:Int)=0))with
    |false=>rfl
    |true=>rw[hx]at hh;cases hh
   have hpos:0<c.code.length:=by
    have:=(M7.1 hb).2
    rw[M9]at this;omega
   have hmk:l7 T 60 (.int .i64 c.code.length) (.int .i64 c.code.length) []= .ok (.hs 0 0 c.code.length 1 false) (Hr (List.replicate c.code.length 0)):=by
    have e:fa T 60 (.int .i64 c.code.length) (.int .i64 c.code.length)=some (.sl (List.replicate c.code.length (.int .i64 0))):=by
     show (if _/\_/\_/\_/\_ then _ else none)=_;rw[LC ⟨by omega,by omega,by omega,by show (8:Int)*_<=_;omega,rfl⟩];rfl
    have hz:cR 1 (List.replicate c.code.length (AV.int .i64 0))=true:=by
     have:=rD (List.replicate c.code.length (0:Int))
     rw[List.map_replicate]at this;exact this
    unfold l7;rw[e];show (bif cR 1 (List.replicate c.code.length (AV.int .i64 0))&&decide (0<1)&&decide (0<(List.replicate c.code.length (AV.int .i64 0)).length)then R.ok (AV.hs 0 0 (List.replicate c.code.length (AV.int .i64 0)).length 1 false) ([]++[(List.replicate c.code.length (AV.int .i64 0)).flatMap ab])else .fail)=_;rw[hz,NI,Mj hpos];have hfm:(List.replicate c.code.length (AV.int .i64 0)).flatMap ab=(List.replicate c.code.length (0:Int)).map (AV.int .i64):=by
     generalize c.code.length=n
     induction n with
     |zero=>rfl
     |succ n ih=>rw[Ot,Ot,M5,Mi,ih];rfl
    rw[hfm];rfl
   have hS:S18 (ai pg) ah c.av []=ah (L18_2 (ai pg) ah) [.ip (ab c.av),.hs 0 0 c.code.length 1 false,jW c.code,.int .i64 c.code.length,.int .i64 0] (Hr (List.replicate c.code.length 0)):=by
    simp -implicitDefEqProofs only[S18,fK0,G7,fK1,G8,fK2,It,fK3,vM,ol,am,hN,ax,kO,aH,gH,eV,bA,aw,ic,hb,ap,LJ,Md];rw[aL hmk]
   rw[hS];rcases ya (c:=c) rfl hnb hnm c.code [] rfl with⟨a1,h',a2⟩|⟨a1,a2⟩
   ·refine⟨h',.tup [.sl [],.bool false],a2,?_⟩;unfold cj;rw[if_neg (fun e=>by rw[a1]at e;cases e.2)];rfl
   ·have a2':ah (L18_2 (ai pg) ah) [.ip (ab c.av),.hs 0 0 c.code.length 1 false,jW c.code,.int .i64 c.code.length,.int .i64 0] (Hr (List.replicate c.code.length 0))=_:=a2;have h1:¬((c.code.length:Int)<(c.code.length:Int)):=by omega
    have hs0:ak T 60 (.hs 0 0 c.code.length 1 false) (.int .i64 0)=some (.hp 0 (0+0*1)):=py (k:=0) hpos;have hst:=GW (hl:=List.replicate c.code.length (-1)) (k:=0) (by simpa using hpos) 0;have hset:(List.replicate c.code.length (-1:Int)).set 0 0=0:: List.replicate (c.code.length-1) (-1):=by
     obtain⟨m,hm⟩:∃m,c.code.length=m+1:=⟨c.code.length-1,by omega⟩;rw[hm];rfl
    rw[hset]at hst;have hI:=zy c.code.length hpos;have hng:kN (0:: List.replicate (c.code.length-1) (-1))<=c.code.length:=by have:=hI.hi 0 hpos;rw[LK _ 0 (by simp)]at this;simp at this;omega
    have hall:c.code.all (aV c.code.length c.locals)=true:=a1;have hH:cj c=kP c.code (2*c.code.length+2) (0:: List.replicate (c.code.length-1) (-1)) [0]:=by
     unfold cj;rw[LC ⟨hd,hall⟩]
    have eL:ah (L18_2 (ai pg) ah) [.ip (ab c.av),.hs 0 0 c.code.length 1 false,jW c.code,.int .i64 c.code.length,.int .i64 c.code.length] (Hr (List.replicate c.code.length (-1)))=ah (L18_1 (ai pg) ah) [.ip (ab c.av),.hs 0 0 c.code.length 1 false,ints [0]] (Hr (0:: List.replicate (c.code.length-1) (-1))):=by
     rw[FL18_2];simp -implicitDefEqProofs only[L18_2,aw,aB,aH,am,ap,LB,if_neg h1,hs0];rw[aL hst];simp -implicitDefEqProofs only[KB,am]
    rw[a2',eL,hH];rcases uJ (c:=c) rfl hnb (fun i hi=>LO.1 hall i hi) (2*c.code.length+2) _ [0] hI (by simp only[MP];have:=hI.hi 0 hpos;rw[LK _ 0 (by simp)]at this;simp at this;omega) (by omega) (fun v hv=>by rw[L5]at hv;subst hv;omega)with⟨h',b1,b2⟩|⟨hl',b1,b2,b3⟩
    ·exact⟨h',_,b2,by rw[b1];rfl⟩
    ·exact⟨_,_,b3,by rw[b1];exact A5 hl' b2⟩
 obtain⟨h',v,k1,k2⟩:=key;rw[C18,mK];funext h;unfold aM;rw[k1];simp only[k2];rfl
def t8(c:Cod)(hnb:c.code.length<=1000000)(hnm:∀i∈c.code,i.names.length<=1000000):ai pg 8 [c.av]=M.pure (.bool (cj c).isSome):=by
 have h:=t18 c hnb hnm;have hx:∃a,Jd (cj c)= .tup [a,.bool (cj c).isSome]:=by
  cases cj c<;>exact⟨_,rfl⟩
 obtain⟨a,ha⟩:=hx;rw[ha]at h;rw[C8,mK];simp -implicitDefEqProofs only[S8,Dv,am,h,ax,cn,LV,Mo];exact cF _
def ta(p:Cod×Nat):AV:=if p.1.code=[]then .hn else .hs p.2 0 p.1.code.length 5 true
def jG(p:Cod×Nat):AV:=.agg [.str p.1.func,.int .i64 p.1.params,.int .i64 p.1.locals,ta p]
theorem mq(p:Cod×Nat):(ab (jG p)).length=4:=rfl
def Cl(p:Cod×Nat):bn (ta p)=true:=by unfold ta;split<;>rfl
theorem Ca(p:Cod×Nat):cI 4 (jG p)=true:=by
 have h:=Cl p;have e:cI 4 (jG p)=((bn (.str p.1.func))&&((bn (.int .i64 p.1.params))&&((bn (.int .i64 p.1.locals))&&(bn (ta p)&&true)))):=rfl;rw[e,h];rfl
def D7(ps:List (Cod×Nat)):(rowOf jG ps).all bn=true:=by
 rw[LO];intro y hy;simp only[rowOf,Nh,Mu]at hy;obtain⟨_,⟨p,_,rfl⟩,hy⟩:=hy;have:y∈[AV.str p.1.func,.int .i64 p.1.params,.int .i64 p.1.locals,ta p]:=hy;simp only[LU,MM,Ng]at this;rcases this with rfl|rfl|rfl|rfl
 ·rfl
 ·rfl
 ·rfl
 ·exact Cl p
def D6(l:List Ins):(rowOf Ins.av l).all bn=true:=by
 rw[LO];intro y hy;simp only[rowOf,Nh,Mu]at hy;obtain⟨_,⟨j,_,rfl⟩,hy⟩:=hy;have:y∈j.cells:=hy;simp only[Ins.cells,LU,MM,Ng]at this;rcases this with rfl|rfl|rfl|rfl|rfl<;>rfl
def RI(h:Hp)(out:AV)(ps:List (Cod×Nat)):Prop:=(ps=[]/\out= .hn)\/(ps≠[]/\∃l,out= .hs l 0 ps.length 4 true/\h[l]? = some (rowOf jG ps)/\(∀p∈ps,p.1.code≠[]->p.2≠l/\h[p.2]? = some (rowOf Ins.av p.1.code))/\
 ∀p,ps.getLast? = some p->p.1.code≠[]->∀q∈ps.dropLast,q.1.code≠[]->q.2≠p.2)
def RI.len{h:Hp}{out:AV}{ps:List (Cod×Nat)}(H:RI h out ps):aK T 22 out=some (.int .i64 ps.length):=by
 rcases H with⟨rfl,rfl⟩|⟨_,l,rfl,_⟩<;>rfl
def ko(ps:List (Cod×Nat))(p:Cod×Nat):rowOf jG (ps++[p])=rowOf jG ps++ab (jG p):=by simp[rowOf]
def RI.push{h:Hp}{out:AV}{ps:List (Cod×Nat)}(H:RI h out ps)(c:Cod)(hc:c.code=[])(hb:ps.length<=1000000):∃out' h',appH T 22 false out (.sl [jG (c,0)]) h= .ok out' h'/\RI h' out' (ps++[(c,0)]):=by
 have hlast:∀p,(ps++[(c,0)]).getLast? = some p->p.1.code≠[]->∀q∈(ps++[(c,0)]).dropLast,q.1.code≠[]->q.2≠p.2:=by
  intro p hp hne;rw[Oo,LA]at hp;subst hp;exact absurd hc hne
 rcases H with⟨rfl,rfl⟩|⟨hne,l,rfl,hl,hI,_⟩
 ·refine⟨_,_,xA (T:=T) (t:=22) (e:=28) rfl rfl rfl (x:=jG (c,0)) (Ca _) (by decide) (by decide) (by decide) h,.inr ⟨by simp,h.length,rfl,?_,?_,hlast⟩⟩
  ·rw[LS (LI _)];simp[rowOf]
  ·intro p hp hpc;simp only[Mn,L5]at hp;subst hp;exact absurd hc hpc
 ·have hln:=eN (f:=jG) (sz:=4) mq ps;have hlt:=cU hl;refine⟨_,_,xB (T:=T) (t:=22) (e:=28) rfl rfl rfl (x:=jG (c,0)) (Ca _) (by decide) (by decide) hl (D7 ps) hln (Ms.2 hne) (by show (ps.length+1)*56<=_;omega),.inr ⟨by simp,h.length,by simp,?_,?_,hlast⟩⟩
  ·rw[LS (by simp),ko];simp
  ·intro p hp hpc;rcases L3.1 hp with hp|hp
   ·obtain⟨n1,n2⟩:=hI p hp hpc;have hpl:=cU n2;refine⟨by omega,?_⟩;rw[LP (by simpa using hpl),L6,if_neg (by omega)];exact n2
   ·rw[L5]at hp;subst hp;exact absurd hc hpc
theorem KY{l n k:Nat}(h:k<n):ak T 22 (.hs l 0 n 4 true) (.int .i64 (k:Int))=some (.hp l (0+k*4)):=by
 have e:ak T 22 (.hs l 0 n 4 true) (.int .i64 (k:Int))=if 0<=(k:Int)/\(k:Int)<(n:Int)then some (.hp l (0+(k:Int).toNat*4))else none:=rfl;rw[e,LC (by omega),LH]
theorem KX(l k:Nat):aa T 28 (.hp l k) 3=some (.hp l (k+3)):=rfl
def RI.addI{h:Hp}{out:AV}{ps:List (Cod×Nat)}{p:Cod×Nat}(H:RI h out (ps++[p]))(i:Ins)(hb:p.1.code.length<=1000000):
  ∃l h1 h2,out= .hs l 0 (ps.length+1) 4 true/\bj T 26 (.hp l (0+ps.length*4+3)) h= .ok (ta p) h/\appH T 26 false (ta p) (.sl [i.av]) h= .ok (.hs h.length 0 (p.1.code.length+1) 5 true) h1/\
   bI T 26 (.hp l (0+ps.length*4+3)) (.hs h.length 0 (p.1.code.length+1) 5 true) h1= .ok (.tup []) h2/\RI h2 out (ps++[({ p.1 with code:=p.1.code++[i] },h.length)]):=by
 rcases H with⟨e,_⟩|⟨_,l,rfl,hl,hI,hL⟩
 ·simp at e
 ·have hlt:=cU hl;have hln:=eN (f:=jG) (sz:=4) mq ps;have hlen:(ps++[p]).length=ps.length+1:=by simp
  have hL':=hL p (Oo ..);have ed:(ps++[p]).dropLast=ps:=List.dropLast_concat;rw[ed]at hL';have hcell:(rowOf jG (ps++[p]))[0+ps.length*4+3]? = some (ta p):=by
   rw[ko,LS (by omega),show 0+ps.length*4+3-(rowOf jG ps).length=3 by omega];rfl
  have ld:bj T 26 (.hp l (0+ps.length*4+3)) h= .ok (ta p) h:=fX (T:=T) (t:=26) rfl rfl hl hcell;have hr:rowOf Ins.av (p.1.code++[i])=rowOf Ins.av p.1.code++ab i.av:=by simp[rowOf]
  have hap:∃h1,appH T 26 false (ta p) (.sl [i.av]) h= .ok (.hs h.length 0 (p.1.code.length+1) 5 true) h1/\h1[h.length]? = some (rowOf Ins.av (p.1.code++[i]))/\h1[l]? = h[l]? /\h1.length=h.length+1/\∀q∈ps,q.1.code≠[]->h1[q.2]? = h[q.2]?:=by
   by_cases hc:p.1.code=[]
   ·have e1:ta p= .hn:=LC hc;refine⟨h++[ab i.av],?_,?_,?_,by simp,?_⟩
    ·rw[e1,hc];exact xA (T:=T) (t:=26) (e:=67) rfl rfl rfl (x:=i.av) rfl (by decide) (by decide) (by decide) h
    ·rw[hr,hc,LS (by omega)];simp[rowOf]
    ·rw[LP hlt]
    ·intro q hq hqc
     have:=cU (hI q (by simp[hq]) hqc).2
     rw[LP this]
   ·have e1:ta p= .hs p.2 0 p.1.code.length 5 true:=if_neg hc;obtain⟨n1,n2⟩:=hI p (by simp) hc;have hlni:=eN (f:=Ins.av) zm p.1.code;refine⟨(h.set p.2 [])++[rowOf Ins.av p.1.code++ab i.av],?_,?_,?_,by simp,?_⟩
    ·rw[e1];exact xB (T:=T) (t:=26) (e:=67) rfl rfl rfl (x:=i.av) rfl (by decide) (by decide) n2 (D6 _) hlni (Ms.2 hc) (by show (p.1.code.length+1)*72<=_;omega)
    ·rw[hr,LS (by simp)];simp
    ·rw[LP (by simpa using hlt),L6,if_neg (by omega)]
    ·intro q hq hqc;have hq2:=cU (hI q (by simp[hq]) hqc).2;rw[LP (by simpa using hq2),L6,if_neg (fun e=>hL' hc q hq hqc e.symm)]
  obtain⟨h1,a1,a2,a3,a4,a5⟩:=hap;have hrl:(rowOf jG (ps++[p])).length=ps.length*4+4:=by
   rw[ko,L4,hln,mq]
  have st:=gM (T:=T) (t:=26) rfl (h:=h1) (l:=l) (k:=0+ps.length*4+3) (v:=.hs h.length 0 (p.1.code.length+1) 5 true) (by rw[a3];exact hl) rfl (show 0+ps.length*4+3+1<=(rowOf jG (ps++[p])).length by omega) (by decide);have hrow:setCells (rowOf jG (ps++[p])) (0+ps.length*4+3) (ab (.hs h.length 0 (p.1.code.length+1) 5 true))=rowOf jG (ps++[({ p.1 with code:=p.1.code++[i] },h.length)]):=by
   rw[ko,ko];have e2:ta ({ p.1 with code:=p.1.code++[i] },h.length)= .hs h.length 0 (p.1.code.length+1) 5 true:=by
    unfold ta;rw[if_neg (by simp)];simp
   have e3:ab (jG ({ p.1 with code:=p.1.code++[i] },h.length))=[.str p.1.func,.int .i64 p.1.params,.int .i64 p.1.locals,.hs h.length 0 (p.1.code.length+1) 5 true]:=by
    show[AV.str p.1.func,.int .i64 p.1.params,.int .i64 p.1.locals,ta ({ p.1 with code:=p.1.code++[i] },h.length)]=_;rw[e2]
   rw[e3];show ((rowOf jG ps++[AV.str p.1.func,.int .i64 p.1.params,.int .i64 p.1.locals,ta p]).take (0+ps.length*4+3)++[AV.hs h.length 0 (p.1.code.length+1) 5 true])++(rowOf jG ps++[AV.str p.1.func,.int .i64 p.1.params,.int .i64 p.1.locals,ta p]).drop (0+ps.length*4+3+1)=_;rw[show 0+ps.length*4+3=(rowOf jG ps).length+3 by omega,OA,show (rowOf jG ps).length+3+1=(rowOf jG ps).length+4 by omega,OB];simp
  rw[hrow]at st;refine⟨l,h1,_,by rw[hlen],ld,a1,st,.inr ⟨by simp,l,by simp,?_,?_,?_⟩⟩
  ·rw[L6,LC rfl,LC (by omega)]
  ·intro q hq hqc;rcases L3.1 hq with hq|hq
   ·obtain⟨n1,n2⟩:=hI q (by simp[hq]) hqc;refine⟨n1,?_⟩;rw[L6,if_neg (OZ n1),a5 q hq hqc];exact n2
   ·rw[L5]at hq;subst hq;refine⟨by show h.length≠l;omega,?_⟩;rw[L6,if_neg (by omega)];exact a2
  ·intro q hq _ r hr2 hrc;rw[Oo,LA]at hq;subst hq;rw[List.dropLast_concat]at hr2
   have:=cU (hI r (by simp[hr2]) hrc).2
   show r.2≠h.length;omega
def Gs{h:Hp}{out:AV}{ps:List (Cod×Nat)}(H:RI h out ps):fV 6 h out=dp (ps.map (·.1)):=by
 rcases H with⟨rfl,rfl⟩|⟨hne,l,rfl,hl,hI,_⟩
 ·rfl
 ·have hlen:=eN (f:=jG) (sz:=4) mq ps;have key:∀p∈ps,fV 5 h (jG p)=p.1.av:=by
   intro p hp;by_cases hc:p.1.code=[]
   ·have e1:ta p= .hn:=LC hc;unfold fV;simp only[jG,e1,cl,dn];unfold Cod.av;rw[hc];rfl
   ·have e1:ta p= .hs p.2 0 p.1.code.length 5 true:=if_neg hc;have hi:=mR (f:=Ins.av) zm (fun _=>rfl) (fun x g=>by simp[Ins.av,Ins.cells,cl,dn]) (by decide) (hI p hp hc).2 4;unfold fV at hi |-;simp only[cl]at hi;simp only[jG,e1,cl,dn,hi];rfl
  have hg:fV 6 h (.hs l 0 ps.length 4 true)= .sl ((List.range ps.length).map fun i=>fV 5 h (.agg (((rowOf jG ps).drop (0+i*4)).take 4))):=by
   have h1:(decide (0+ps.length*4<=(rowOf jG ps).length)&&decide (0<4)&&(true||(Nat.beq 4 1&&(rowOf jG ps).all bn)))=true:=by
    simp[hlen]
   conv=>lhs;unfold fV
   simp only[cl,hl,h1,LF]
  rw[hg];unfold dp;congr 1;apply Ob
  ·simp
  ·intro i h2 h3;have hi:i<ps.length:=by simpa using h2
   simp only[OP,Oy,Ma];rw[km (f:=jG) mq ps i hi];exact key ps[i] (LM hi)
def Kc{l:List aU}(h:3<l.length):ak T 35 (strs l) (.int .i64 3)=some (.ip (ab (.str (l.getD 3 [])))):=by
 have:=jI (l:=l) (n:=3) (by omega) (by omega)
 rw[this];rcases l with _|⟨a,_|⟨b,_|⟨c,_|⟨d,l⟩⟩⟩⟩
 ·simp at h
 ·simp at h
 ·simp at h
 ·simp at h
 ·rfl
theorem Kw(a b:aU):ao T .neq 9 (.str a) (.str b)=some (.bool (!(a== b))):=rfl
def Jj(a b:aU):ao T .eql 9 (.str a) (.str b)=some (.bool (decide (a=b))):=by
 rw[xf,Bool.beq_eq_decide_eq]
theorem sN(s:aU)(lines:List aU)(hln:lines.length<=10000)(hN:∀t∈lines,t.length<=900000):∀(B A:List aU)(h:Hp)(out:AV)(ps:List (Cod×Nat)),A++B=lines->RI h out ps->ps.length<=A.length->(∀p∈ps,p.1.code.length<=A.length)->
  ∃h',ah (L10_0 (ai pg) ah (K10_0 (ai pg) ah)) [.str s,out,strs lines,.int .i64 lines.length,.int .i64 A.length] h=(match cY B (ps.map (·.1))with
   |none=>.ok (.tup [.sl [],.int .i64 2]) h'
   |some l=>K10_0 (ai pg) ah [.str s,dp l] h')
 |[],A,h,out,ps,e,H,_,_=>by
  rw[MW]at e;subst e;have h1:¬((A.length:Int)<(A.length:Int)):=by omega
  refine⟨h.map fun _=>[],?_⟩;rw[FL10_0];simp -implicitDefEqProofs only[L10_0,aw,aB,aH,am,ap,LB,if_neg h1,cY];show K10_0 (ai pg) ah [fV 6 h (.str s),fV 6 h out] _=_;rw[Gs H];rfl
 | x :: B,A,h,out,ps,e,H,hp1,hp2=>by
  have hlen:A.length+(B.length+1)=lines.length:=by rw[<- e];simp
  have h1:(A.length:Int)<(lines.length:Int):=by omega
  have hix:=jI (l:=lines) (n:=(A.length:Int)) (by omega) h1;have hxx:lines[A.length]! = x:=by rw[LK lines A.length (by omega)];simp[<- e]
  rw[LH,hxx]at hix;have hxl:=hN x (by rw[<- e];simp);have hw:IntKind.i64.wrap ((A.length:Int)+1)=((A++[x]).length:Nat):=by rw[a8 (by omega) (by omega)];simp
  have ht:=t27 x (by omega);have htl:=rR x;have hs:=t26 (fN x) (by omega);have hbw:=jt 32 0 _ (fN x) (LI _);have hw0:0<(eb 32 0 (fN x)).length:=Ms.2 hbw.1;have eS:ah (L10_0 (ai pg) ah (K10_0 (ai pg) ah)) [.str s,out,strs lines,.int .i64 lines.length,.int .i64 A.length]=L10_0 (ai pg) ah (K10_0 (ai pg) ah) (ah (L10_0 (ai pg) ah (K10_0 (ai pg) ah))) [.str s,out,strs lines,.int .i64 lines.length,.int .i64 A.length]:=by rw[FL10_0]
  rw[eS];by_cases hx:x=[]
  ·obtain⟨h',eh⟩:=sN s lines hln hN B (A++[x]) h out ps (by rw[<- e];simp) H (by simp;omega) (fun p hp=>by have:=hp2 p hp;simp;omega);refine⟨h',?_⟩;rw[cY,LC hx,<- eh];simp -implicitDefEqProofs only[L10_0,aw,aB,aH,am,ap,LB,LC h1,hix,zt,ht,ax,hs,H.len,Jj,LC hx,bD,hw]
  ·generalize hgw:eb 32 0 (fN x)=w at *;have i0:=Bh (l:=w) hw0;have hwb:∀y∈w,y.length<=900000:=fun y hy=>by have:=hbw.2.2 y hy;omega
   have hgd:∀k,(w.getD k []).length<=900000:=fun k=>by
    rw[Mm];cases hk:w[k]? with
    |none=>simp
    |some y=>exact hwb y (MS hk)
   have l4:decide ((w.length:Int)=4)=decide (w.length=4):=MG.2 (by omega);rw[cY,if_neg hx];simp only[hgw,pi];by_cases hf:w.getD 0 []=[102,117,110,99]/\w.length=4
   ·rw[LC hf];have hb:aQ T true 28 [(0,.str (w.getD 1 [])),(1,.int .i64 (fp (w.getD 2 []))),(2,.int .i64 (fp (w.getD 3 [])))]=some (jG (⟨w.getD 1 [],fp (w.getD 2 []),fp (w.getD 3 []),[]⟩,0)):=rfl;have hbs:aS T 22 1 [(0,jG (⟨w.getD 1 [],fp (w.getD 2 []),fp (w.getD 3 []),[]⟩,0))]=some (.sl [jG (⟨w.getD 1 [],fp (w.getD 2 []),fp (w.getD 3 []),[]⟩,0)]):=rfl;obtain⟨out',h2,e2,H2⟩:=H.push ⟨w.getD 1 [],fp (w.getD 2 []),fp (w.getD 3 []),[]⟩ rfl (by omega);obtain⟨h',eh⟩:=sN s lines hln hN B (A++[x]) h2 out' _ (by rw[<- e];simp) H2 (by simp;omega) (fun p hp=>by
     rcases L3.1 hp with hp|hp
     ·have:=hp2 p hp;simp;omega
     ·rw[L5]at hp;subst hp;exact LZ _)
    refine⟨h',?_⟩;have em:(ps++[((⟨w.getD 1 [],fp (w.getD 2 []),fp (w.getD 3 []),[]⟩,0):Cod×Nat)]).map (·.1)=ps.map (·.1)++[⟨w.getD 1 [],fp (w.getD 2 []),fp (w.getD 3 []),[]⟩]:=by rw[NA];rfl
    rw[em]at eh;rw[<- eh];have u2:=t28 (w.getD 2 []) (by have:=hgd 2;omega);have u3:=t28 (w.getD 3 []) (by have:=hgd 3;omega);have hf':(decide (w.getD 0 []=[102,117,110,99])&&decide (w.length=4))=true:=by rw[Mj hf.1,Mj hf.2];rfl
    simp -implicitDefEqProofs only[L10_0,aw,aB,aH,am,ap,LB,LC h1,hix,zt,ht,ax,hs,H.len,Jj,if_neg hx,i0,bA,d8,eV,l4,d7,hf',Mc,Im (l:=w) (by omega),Io (l:=w) (by omega),Kc (l:=w) (by omega),u2,u3,dU,hb,hbs];rw[aL e2];simp -implicitDefEqProofs only[bD,am,hw]
   ·rw[if_neg hf];have hf':¬(decide (w.getD 0 []=[102,117,110,99])&&decide (w.length=4))=true:=by simpa using hf
    by_cases hps:ps=[]
    ·subst hps;refine⟨h,?_⟩;rw[LC (show ([]:List (Cod×Nat)).map (·.1)=[]from rfl)];have h0:((([]:List (Cod×Nat)).length:Nat):Int)=0:=rfl;simp -implicitDefEqProofs only[L10_0,aw,aB,aH,am,ap,LB,LC h1,hix,zt,ht,ax,hs,H.len,Jj,if_neg hx,i0,bA,d8,eV,l4,d7,if_neg hf',h0,LC];rfl
    ·obtain⟨qs,p,rfl⟩:∃qs p,ps=qs++[p]:=⟨ps.dropLast,ps.getLast hps,(NM hps).symm⟩;have hne:¬((qs++[p]).map (·.1)=[]):=by simp
     have hpl:=hp2 p (by simp);obtain⟨l,h2,h3,rfl,e1,e2,e3,H3⟩:=H.addI (eB w) (by omega);have hql:qs.length+1<=A.length:=by simpa using hp1
     obtain⟨h',eh⟩:=sN s lines hln hN B (A++[x]) h3 _ _ (by rw[<- e];simp) H3 (by simp;omega) (fun q hq=>by
      rcases L3.1 hq with hq|hq
      ·have:=hp2 q (by simp[hq]);simp;omega
      ·rw[L5]at hq;subst hq;simp;omega)
     refine⟨h',?_⟩;rw[if_neg hne];have em:(qs++[(({ p.1 with code:=p.1.code++[eB w] },h.length):Cod×Nat)]).map (·.1)=addI ((qs++[p]).map (·.1)) (eB w):=by simp[addI]
     rw[em]at eh;rw[<- eh];have hn0:¬(((qs++[p]).length:Int)=0):=by simp;omega
     have hws:IntKind.i64.wrap (((qs++[p]).length:Int)-1)=qs.length:=by rw[a8 (by simp only[L4,MP];omega) (by simp only[L4,MP];omega)];simp
     have ui:=t29 w hw0 (by omega) (fun y hy=>by have:=hwb y hy;omega);have hbs:aS T 26 1 [(0,(eB w).av)]=some (.sl [(eB w).av]):=rfl;simp -implicitDefEqProofs only[L10_0,aw,aB,aH,am,ap,LB,LC h1,hix,zt,ht,ax,hs,H.len,Jj,if_neg hx,i0,bA,d8,eV,l4,d7,if_neg hf',if_neg hn0,gd,hws,KY (N9 qs.length),KX];rw[aL e1];simp -implicitDefEqProofs only[ui,dU,ax,hbs,am];rw[aL e2];rw[aL e3];simp -implicitDefEqProofs only[bD,am,hw]
def rJ{n N:Nat}(hn:n<=10000)(hN:N<=1000000){c:Cod}(h:CodLim n N c):ai pg 8 [c.av]=M.pure (.bool (Gy c))/\(Gy c=true->CodOk c)/\c.code.length<=10000:=by
 have hl:=h.len;exact⟨t8 c (by omega) (fun i hi=>by have:=(h.ins i hi).1;omega),fun hr=>pk hr h.loc.2 (fun i hi=>(h.ins i hi).2),by omega⟩
def KP{n N:Nat}(hn:n<=10000)(hN:N<=1000000){l:List Cod}(hl:l.length<=10000)(h:∀c∈l,CodLim n N c):ai pg 9 [dp l]=M.pure (.str (nN l)):=
 t9 Gy hl (fun c hc=>rJ hn hN (h c hc))
def kj(s:aU):AV:=.tup [dp (uW s).1,.int .i64 (uW s).2]
def t10(s:aU)(hs:s.length<=900000)(hln:(eb 10 1 s).length<=10000):ai pg 10 [.str s]=M.pure (kj s):=by
 have hb:=jt 10 1 _ s (LI _);have hN:∀t∈eb 10 1 s,t.length<=900000:=fun t ht=>by have:=hb.2.2 t ht;omega
 have hsp:=t25 s (by omega);obtain⟨h',e⟩:=sN s (eb 10 1 s) hln hN (eb 10 1 s) [] [] .hn [] rfl (.inl ⟨rfl,rfl⟩) (LI _) (fun p hp=>by cases hp);have hS:S10 (ai pg) ah (.str s) []= .ok (kj s) h':=by
  have e0:S10 (ai pg) ah (.str s)=ah (L10_0 (ai pg) ah (K10_0 (ai pg) ah)) [.str s,.hn,strs (eb 10 1 s),.int .i64 (eb 10 1 s).length,.int .i64 ([]:List aU).length]:=by
   simp -implicitDefEqProofs only[S10,jn,hsp,ax,d8,am];rfl
  rw[e0,e];unfold kj uW;cases hg:cY (eb 10 1 s) []with
  |none=>
   simp only[N1,hg];rfl
  |some l=>
   simp only[N1,hg];have hl:=jr (N:=1000000) (eb 10 1 s) [] l 0 hg (fun t ht=>by have:=hN t ht;omega) (fun c hc=>by cases hc);have hL:=KP (n:=0+(eb 10 1 s).length) (by omega) (LI _) (l:=l) (by have:=hl.2;simp at this;omega) hl.1;simp -implicitDefEqProofs only[K10_0,aw,aB,hL,ax,Kw,am,ap];by_cases he:nN l=s
   ·rw[LC he,if_neg (by simp[he])];rfl
   ·rw[if_neg he,LC (by simpa using he)];rfl
 have hcl:fV 6 h' (kj s)=kj s:=by
  unfold kj fV dp;simp only[cl,dn,dk _ Cod.av (mK _)]
 rw[C10,show cl az (.str s)= .str s from rfl];funext h;unfold aM;rw[hS];simp only[hcl];rfl
def sE{F:(List AV->M AV)->List AV->M AV}(hF:∀vs,ah F vs=F (ah F) vs)(st:Nat->List AV)(n:Nat)(hend:∃b,F (ah F) (st n)=M.pure (.bool b))(hstep:∀k,k<n->(∃b,F (ah F) (st k)=M.pure (.bool b))\/F (ah F) (st k)=ah F (st (k+1))):
  ∀k,k<=n->∃b,ah F (st k)=M.pure (.bool b):=by
 have key:∀r k,n-k=r->k<=n->∃b,ah F (st k)=M.pure (.bool b):=by
  intro r
  induction r with
  |zero=>
   intro k hr hk;obtain rfl:k=n:=by omega
   rw[hF];exact hend
  | succ r ih=>
   intro k hr hk;rw[hF];rcases hstep k (by omega)with h|h
   ·exact h
   ·rw[h];exact ih (k+1) (by omega) (by omega)
 exact fun k hk=>key (n-k) k rfl hk
theorem H7:∀(d:Nat),d<=6->∀(t:Ty),t.Lim->∀most:Int,0<=most->most<=1000->∃r:Int,ai pg 62 [t.av,.int .i64 most,.int .i64 d]=M.pure (.int .i64 r)/\1<=r/\r<=most+1
 |0,_,t,ht,most,h0,h1=>by
  have w1:IntKind.i64.wrap (most+1)=most+1:=a8 (by omega) (by omega);refine⟨most+1,?_,by omega,by omega⟩;rw[C62];simp[S62,w1]
 | d + 1,hd,t,ht,most,h0,h1=>by
  have hlen:=ht.len;have hd1:IntKind.i64.wrap (((d+1:Nat):Int)-1)=(d:Int):=iX (by omega);have hl:∀(k i:Nat),t.fields.length-i=k->i<=t.fields.length->∀m:Int,1<=m->m<=most+1->∃r:Int,ah (L62_0 (ai pg) ah) [.int .i64 most,.int .i64 ((d+1:Nat):Int),.ip (ab t.av),.int .i64 m,.int .i64 i]=M.pure (.int .i64 r)/\1<=r/\r<=most+1:=by
   intro k
   induction k with
   |zero=>
    intro i hk hi m hm1 hm2;rw[FL62_0];have h1:¬((i:Int)<(t.fields.length:Int)):=by omega
    exact⟨m,by simp[L62_0,h1],hm1,hm2⟩
   | succ k ihk=>
    intro i hk hi m hm1 hm2;rw[FL62_0];have hlt:i<t.fields.length:=by omega
    have h1':(i:Int)<(t.fields.length:Int):=by omega
    by_cases hm:m<=most
    ·have hix:=oe (l:=t.fields) (n:=(i:Int)) (by omega) h1';rw[LH,LK t.fields i hlt]at hix;have hm':=LM hlt;generalize t.fields[i]=f at hix hm';obtain⟨r,e1,e2,e3⟩:=H7 d (by omega) f.2 (ht.kid hm') (most-m) (by omega) (by omega);obtain⟨r2,g1,g2,g3⟩:=ihk (i+1) (by omega) (by omega) (m+r) (by omega) (by omega);have w1:IntKind.i64.wrap (most-m)=most-m:=a8 (by omega) (by omega);have w2:IntKind.i64.wrap (m+r)=m+r:=a8 (by omega) (by omega);have w3:IntKind.i64.wrap ((i:Int)+1)=((i+1:Nat):Int):=bu (by omega);refine⟨r2,?_,g2,g3⟩;rw[<- g1];simp only[L62_0,aw,aB,eG,FA55_1,am,MX,Mx,LD36,mE,aH,kw,h1',hm,MI,bX,ax,ct,ap,Mc,hix,dQ,FA95_1,LD55,LQ,Mb,Ma,Nat.reduceAdd,LI,Mt,MJ,fA,gd,w1,hd1,e1,bD,w2,w3]
    ·exact⟨m,by simp[L62_0,h1',hm],hm1,hm2⟩
  obtain⟨r,e1,e2,e3⟩:=hl t.fields.length 0 rfl (by omega) 1 (by omega) (by omega);refine⟨r,?_,e2,e3⟩;rw[C62];have e1':ah (L62_0 (ai pg) ah) [.int .i64 most,.int .i64 ((d+1:Nat):Int),.ip (ab t.av),.int .i64 1,.int .i64 0]=M.pure (.int .i64 r):=e1;have hge:¬((((d+1:Nat):Int))<1):=by omega
  simp only[S62,AC,AB,aH,am,hge,N0,ap,LJ,Md,e1',lX]
def Dl(t:Ty)(ht:t.Lim):∃b,ai pg 32 [t.av]=M.pure (.bool b):=by
 obtain⟨r,e1,e2,e3⟩:=H7 6 (by omega) t ht 40 (by omega) (by omega);have e1':ai pg 62 [t.av,.int .i64 40,.int .i64 6]=M.pure (.int .i64 r):=e1;rw[C32];exact⟨decide (r<=40),by simp[S32,e1']⟩
def J4(s:Sig)(hs:s.Lim):∃b,ai pg 43 [s.av]=M.pure (.bool b):=by
 have hlen:=hs.plen;obtain⟨br,hbr⟩:=Dl s.result hs.result;have hfin:∃b,(ae (ae (af (ao T BinOp.leq 3 (.int .i64 s.params.length) (AV.int IntKind.i64 8))) fun v19=>ae (ay v19 true 1 (M.pure [.bool br])) fun v23=>ae (af (aJ v19 (nth v23 0) (AV.bool false))) fun v24=>M.pure v24) M.pure:M AV)=M.pure (.bool b):=by
  cases br<;>by_cases h:(s.params.length:Int)<=8<;>simp[h]
 obtain⟨b,hb⟩:=sE (FL43_0 (ai pg)) (fun k=>[.ip (ab s.av),.int .i64 (k:Int)]) s.params.length (by
  cases br<;>by_cases h:(s.params.length:Int)<=8<;>simp[L43_0,hbr,h]) (fun k hk=>by
  have h1:(k:Int)<(s.params.length:Int):=by omega
  have hix:=lH (l:=s.params) (n:=(k:Int)) (by omega) h1;rw[LH,LK s.params k hk]at hix;have hm':=LM hk;generalize s.params[k]=t at hix hm';have w3:IntKind.i64.wrap ((k:Int)+1)=(k:Int)+1:=by rw[bu (by omega)];simp
  obtain⟨b,hb⟩:=Dl t (hs.ptys t hm');by_cases h9:(k:Int)<9
  ·have h9':k<9:=by omega
   cases b with
   |false=>exact .inl ⟨false,by simp[L43_0,h1,hk,hix,hb,h9,h9']⟩
   |true=>exact .inr (by simp[L43_0,h1,hk,hix,hb,h9,h9',w3])
  ·have h9':¬k<9:=by omega
   refine .inl ?_;cases br<;>by_cases h:(s.params.length:Int)<=8<;>simp[L43_0,h1,hk,h9,h9',hbr,h]) 0 (LZ _)
 refine⟨b,?_⟩;rw[C43];have hb':ah (L43_0 (ai pg) ah) [.ip (ab s.av),.int .i64 0]=M.pure (.bool b):=hb;simp only[S43,wj,hb',cF]
theorem H8:∀(d:Nat),d<=14->∀(e:Exp),e.Lim->∀most:Int,0<=most->most<=1000->∃r:Int,ai pg 63 [e.av,.int .i64 most,.int .i64 d]=M.pure (.int .i64 r)/\1<=r/\r<=most+1
 |0,_,e,he,most,h0,h1=>by
  have w1:IntKind.i64.wrap (most+1)=most+1:=a8 (by omega) (by omega);refine⟨most+1,?_,by omega,by omega⟩;rw[C63];simp[S63,w1]
 | d + 1,hd,e,he,most,h0,h1=>by
  have hlen:=he.len;have hd1:IntKind.i64.wrap (((d+1:Nat):Int)-1)=(d:Int):=iX (by omega);have hl:∀(k i:Nat),e.args.length-i=k->i<=e.args.length->∀m:Int,1<=m->m<=most+1->∃r:Int,ah (L63_0 (ai pg) ah) [.int .i64 most,.int .i64 ((d+1:Nat):Int),.ip (ab e.av),.int .i64 m,.int .i64 i]=M.pure (.int .i64 r)/\1<=r/\r<=most+1:=by
   intro k
   induction k with
   |zero=>
    intro i hk hi m hm1 hm2;rw[FL63_0];have h1:¬((i:Int)<(e.args.length:Int)):=by omega
    exact⟨m,by simp[L63_0,h1],hm1,hm2⟩
   | succ k ihk=>
    intro i hk hi m hm1 hm2;rw[FL63_0];have hlt:i<e.args.length:=by omega
    have h1':(i:Int)<(e.args.length:Int):=by omega
    by_cases hm:m<=most
    ·have hix:=kJ (l:=e.args) (n:=(i:Int)) (by omega) h1';rw[LH,LK e.args i hlt]at hix;have hm':=LM hlt;generalize e.args[i]=f at hix hm';obtain⟨r,e1,e2,e3⟩:=H8 d (by omega) f (he.kid hm') (most-m) (by omega) (by omega);obtain⟨r2,g1,g2,g3⟩:=ihk (i+1) (by omega) (by omega) (m+r) (by omega) (by omega);have w1:IntKind.i64.wrap (most-m)=most-m:=a8 (by omega) (by omega);have w2:IntKind.i64.wrap (m+r)=m+r:=a8 (by omega) (by omega);have w3:IntKind.i64.wrap ((i:Int)+1)=((i+1:Nat):Int):=bu (by omega);refine⟨r2,?_,g2,g3⟩;rw[<- g1];simp only[L63_0,aw,aB,bp,FA57_5,am,MX,Mx,LD37,rY,aH,kw,h1',hm,MI,bX,ax,ct,ap,Mc,hix,LD57,LQ,Mb,Ma,Nat.reduceAdd,LI,Mt,MJ,ez,gd,w1,hd1,e1,bD,w2,w3]
    ·exact⟨m,by simp[L63_0,h1',hm],hm1,hm2⟩
  have hge:¬((((d+1:Nat):Int))<1):=by omega
  have hge':¬((d:Int)+1<1):=by omega
  have w1:IntKind.i64.wrap (most+1)=most+1:=a8 (by omega) (by omega);by_cases h10:10<(e.names.length:Int)
  ·refine⟨most+1,?_,by omega,by omega⟩;have h10':10<e.names.length:=by omega
   rw[C63];simp[S63,hge',h10,h10',w1]
  ·obtain⟨r,e1,e2,e3⟩:=hl e.args.length 0 rfl (by omega) 1 (by omega) (by omega);refine⟨r,?_,e2,e3⟩;have h10':¬10<e.names.length:=by omega
   have e1':ah (L63_0 (ai pg) ah) [.int .i64 most,.int .i64 ((d:Int)+1),.ip [.int .i64 e.op,.int .i64 e.n,.str e.s,.str e.m,strs e.names,cw e.args],.int .i64 1,.int .i64 0]=M.pure (.int .i64 r):=by
    simp only[bp]at e1;exact e1
   rw[C63];simp[S63,hge',h10,h10',e1']
def J3(e:Exp)(he:e.Lim):∃b,ai pg 33 [e.av]=M.pure (.bool b):=by
 obtain⟨r,e1,e2,e3⟩:=H8 14 (by omega) e he 60 (by omega) (by omega);have e1':ai pg 63 [e.av,.int .i64 60,.int .i64 14]=M.pure (.int .i64 r):=e1;rw[C33];exact⟨decide (r<=60),by simp[S33,e1']⟩
def Gq(l:List bM)(hb:l.length<=140737488355328)(ht:∀f∈l,f.2.Lim):∃b,ai pg 31 [aO l]=M.pure (.bool b):=by
 obtain⟨b,hb⟩:=sE (FL31_0 (ai pg)) (fun k=>[aO l,.int .i64 (k:Int)]) l.length ⟨decide ((l.length:Int)<=8),by simp[L31_0]⟩ (fun k hk=>by
  have h1:(k:Int)<(l.length:Int):=by omega
  have hix:=oe (l:=l) (n:=(k:Int)) (by omega) h1;rw[LH,LK l k hk]at hix;have hm':=LM hk;generalize l[k]=f at hix hm';have w3:IntKind.i64.wrap ((k:Int)+1)=(k:Int)+1:=by rw[bu (by omega)];simp
  obtain⟨b,hb⟩:=Dl f.2 (ht f hm');by_cases h9:(k:Int)<9
  ·have h9':k<9:=by omega
   cases b with
   |false=>exact .inl ⟨false,by simp[L31_0,h1,hk,hix,hb,h9,h9']⟩
   |true=>exact .inr (by simp[L31_0,h1,hk,hix,hb,h9,h9',w3])
  ·have h9':¬k<9:=by omega
   exact .inl ⟨decide ((l.length:Int)<=8),by simp[L31_0,h1,hk,h9,h9']⟩) 0 (LZ _)
 refine⟨b,?_⟩;rw[C31];have hb':ah (L31_0 (ai pg) ah) [aO l,.int .i64 0]=M.pure (.bool b):=hb;simp only[S31,sk,hb',cF]
def Gr(l:List Exp)(hb:l.length<=140737488355328)(ht:∀f∈l,f.Lim):∃b,ai pg 34 [cw l]=M.pure (.bool b):=by
 obtain⟨b,hb⟩:=sE (FL34_0 (ai pg)) (fun k=>[cw l,.int .i64 (k:Int)]) l.length ⟨decide ((l.length:Int)<=8),by simp[L34_0]⟩ (fun k hk=>by
  have h1:(k:Int)<(l.length:Int):=by omega
  have hix:=kJ (l:=l) (n:=(k:Int)) (by omega) h1;rw[LH,LK l k hk]at hix;have hm':=LM hk;generalize l[k]=f at hix hm';have w3:IntKind.i64.wrap ((k:Int)+1)=(k:Int)+1:=by rw[bu (by omega)];simp
  obtain⟨b,hb⟩:=J3 f (ht f hm');by_cases h9:(k:Int)<9
  ·have h9':k<9:=by omega
   cases b with
   |false=>exact .inl ⟨false,by simp[L34_0,h1,hk,hix,hb,h9,h9']⟩
   |true=>exact .inr (by simp[L34_0,h1,hk,hix,hb,h9,h9',w3])
  ·have h9':¬k<9:=by omega
   exact .inl ⟨decide ((l.length:Int)<=8),by simp[L34_0,h1,hk,h9,h9']⟩) 0 (LZ _)
 refine⟨b,?_⟩;rw[C34];have hb':ah (L34_0 (ai pg) ah) [cw l,.int .i64 0]=M.pure (.bool b):=hb;simp only[S34,Dc,hb',cF]
theorem FE:∀(d:Nat),d<=14->∀(e:Exp),e.Lim->∀most:Int,0<=most->most<=1000->∃r:Int,ai pg 63 [e.av,.int .i64 most,.int .i64 d]=M.pure (.int .i64 r)/\1<=r/\r<=most+1/\(r<=most->(d5 d e:Int)<=r)
 |0,_,e,he,most,h0,h1=>by
  have w1:IntKind.i64.wrap (most+1)=most+1:=a8 (by omega) (by omega);refine⟨most+1,?_,by omega,by omega,fun h=>by omega⟩;rw[C63];simp[S63,w1]
 | d + 1,hd,e,he,most,h0,h1=>by
  have hlen:=he.len;have hd1:IntKind.i64.wrap (((d+1:Nat):Int)-1)=(d:Int):=iX (by omega);have hl:∀(k i:Nat),e.args.length-i=k->i<=e.args.length->∀m:Int,1<=m->m<=most+1->(m<=most->(1:Int)+(((e.args.take i).map (d5 d)).sum:Nat)<=m)->∃r:Int,ah (L63_0 (ai pg) ah) [.int .i64 most,.int .i64 ((d+1:Nat):Int),.ip (ab e.av),.int .i64 m,.int .i64 i]=M.pure (.int .i64 r)/\1<=r/\r<=most+1/\(r<=most->(1:Int)+((e.args.map (d5 d)).sum:Nat)<=r):=by
   intro k
   induction k with
   |zero=>
    intro i hk hi m hm1 hm2 hs;have ht:e.args.take i=e.args:=Nj (by omega);rw[ht]at hs;rw[FL63_0];have h1:¬((i:Int)<(e.args.length:Int)):=by omega
    exact⟨m,by simp[L63_0,h1],hm1,hm2,hs⟩
   | succ k ihk=>
    intro i hk hi m hm1 hm2 hs;rw[FL63_0];have hlt:i<e.args.length:=by omega
    have h1':(i:Int)<(e.args.length:Int):=by omega
    by_cases hm:m<=most
    ·have hix:=kJ (l:=e.args) (n:=(i:Int)) (by omega) h1';rw[LH,LK e.args i hlt]at hix;have hm':=LM hlt;have htk:(e.args.take (i+1)).map (d5 d)=(e.args.take i).map (d5 d)++[d5 d e.args[i]]:=by rw[Nf hlt,NA];rfl
     generalize e.args[i]=f at hix hm' htk;obtain⟨r,e1,e2,e3,e4⟩:=FE d (by omega) f (he.kid hm') (most-m) (by omega) (by omega);obtain⟨r2,g1,g2,g3,g4⟩:=ihk (i+1) (by omega) (by omega) (m+r) (by omega) (by omega) (fun h=>by
      have a:=e4 (by omega);have b:=hs (by omega);rw[htk,List.sum_append];simp only[OE,List.sum_nil];omega)
     have w1:IntKind.i64.wrap (most-m)=most-m:=a8 (by omega) (by omega);have w2:IntKind.i64.wrap (m+r)=m+r:=a8 (by omega) (by omega);have w3:IntKind.i64.wrap ((i:Int)+1)=((i+1:Nat):Int):=bu (by omega);refine⟨r2,?_,g2,g3,g4⟩;rw[<- g1];simp only[L63_0,aw,aB,bp,FA57_5,am,MX,Mx,LD37,rY,aH,kw,h1',hm,MI,bX,ax,ct,ap,Mc,hix,LD57,LQ,Mb,Ma,Nat.reduceAdd,LI,Mt,MJ,ez,gd,w1,hd1,e1,bD,w2,w3]
    ·exact⟨m,by simp[L63_0,h1',hm],hm1,hm2,fun h=>absurd h hm⟩
  have hge:¬((((d+1:Nat):Int))<1):=by omega
  have hge':¬((d:Int)+1<1):=by omega
  have w1:IntKind.i64.wrap (most+1)=most+1:=a8 (by omega) (by omega);by_cases h10:10<(e.names.length:Int)
  ·refine⟨most+1,?_,by omega,by omega,fun h=>by omega⟩;have h10':10<e.names.length:=by omega
   rw[C63];simp[S63,hge',h10,h10',w1]
  ·obtain⟨r,e1,e2,e3,e4⟩:=hl e.args.length 0 rfl (by omega) 1 (by omega) (by omega) (fun _=>by simp);refine⟨r,?_,e2,e3,fun h=>by have:=e4 h;simp only[d5];omega⟩;have h10':¬10<e.names.length:=by omega
   have e1':ah (L63_0 (ai pg) ah) [.int .i64 most,.int .i64 ((d:Int)+1),.ip [.int .i64 e.op,.int .i64 e.n,.str e.s,.str e.m,strs e.names,cw e.args],.int .i64 1,.int .i64 0]=M.pure (.int .i64 r):=by
    simp only[bp]at e1;exact e1
   rw[C63];simp[S63,hge',h10,h10',e1']
def HZ(e:Exp)(he:e.Lim):∃b,ai pg 33 [e.av]=M.pure (.bool b)/\(b=true->d5 14 e<=60):=by
 obtain⟨r,e1,e2,e3,e4⟩:=FE 14 (by omega) e he 60 (by omega) (by omega);have e1':ai pg 63 [e.av,.int .i64 60,.int .i64 14]=M.pure (.int .i64 r):=e1;rw[C33];exact⟨decide (r<=60),by simp[S33,e1'],fun h=>by have:=e4 (by simpa using h);simp only[LB]at h;omega⟩
def HY(m:Ap.Mod)(hm:m.Lim):∃b,ai pg 12 [m.av]=M.pure (.bool b)/\(b=true->m.funcs.length<=6/\∀f∈m.funcs,d5 14 f.body<=60):=by
 have f1:=hm.funcs;obtain⟨b1,e1⟩:=Gq m.vars hm.vars hm.vty;obtain⟨b2,e2⟩:=Gr m.init hm.init hm.ies;obtain⟨b3,e3⟩:=Gq m.old hm.old hm.oty;obtain⟨b4,e4⟩:=Gr m.forward hm.forward hm.fes;obtain⟨b5,e5⟩:=Gr m.back hm.back hm.bes
 have base:∃b,L12_0 (ai pg) ah (ah (L12_0 (ai pg) ah)) [.ip (ab m.av),.int .i64 (m.funcs.length:Int)]=M.pure (.bool b)/\(b=true->m.funcs.length<=6):=by
  cases hq:(decide ((m.funcs.length:Int)<=6)&&decide ((m.uses.length:Int)<=6))with
  |false=>exact⟨false,by simp[L12_0];rw[hq];simp,fun h=>by cases h⟩
  | true=>cases b1 with
   |false=>exact⟨false,by simp[L12_0];rw[hq];simp[e1],fun h=>by cases h⟩
   | true=>cases b2 with
    |false=>exact⟨false,by simp[L12_0];rw[hq];simp[e1,e2],fun h=>by cases h⟩
    | true=>cases b3 with
     |false=>exact⟨false,by simp[L12_0];rw[hq];simp[e1,e2,e3],fun h=>by cases h⟩
     |true=>cases b4 with
      |false=>exact⟨false,by simp[L12_0];rw[hq];simp[e1,e2,e3,e4],fun h=>by cases h⟩
      |true=>exact⟨b5,by simp[L12_0];rw[hq];simp[e1,e2,e3,e4,e5],fun _=>by simp only[LD,LB]at hq;omega⟩
 obtain⟨b0,hb0,q0⟩:=base
 have key:∀n k:Nat,m.funcs.length-k=n->k<=m.funcs.length->(∀f∈m.funcs.take k,d5 14 f.body<=60)->∃b,ah (L12_0 (ai pg) ah) [.ip (ab m.av),.int .i64 (k:Int)]=M.pure (.bool b)/\(b=true->m.funcs.length<=6/\∀f∈m.funcs,d5 14 f.body<=60):=by
  intro n
  induction n with
  |zero=>
   intro k hn hk hall;obtain rfl:k=m.funcs.length:=by omega
   rw[Ny]at hall;refine⟨b0,?_,fun h=>⟨q0 h,hall⟩⟩;rw[FL12_0];exact hb0
  | succ n ih=>
   intro k hn hk hall;have hlt:k<m.funcs.length:=by omega
   have h1:(k:Int)<(m.funcs.length:Int):=by omega
   have hix:=vP (l:=m.funcs) (n:=(k:Int)) (by omega) h1;rw[LH,LK m.funcs k hlt]at hix;have hm':=LM hlt;have htk:m.funcs.take (k+1)=m.funcs.take k++[m.funcs[k]]:=Nf hlt;generalize m.funcs[k]=f at hix hm' htk;have hf:=hm.fns f hm';have w3:IntKind.i64.wrap ((k:Int)+1)=(k:Int)+1:=by rw[bu (by omega)];simp
   obtain⟨c1,g1⟩:=Gq f.params hf.params hf.pty;obtain⟨c2,g2⟩:=Dl f.result hf.result;obtain⟨c3,g3,g4⟩:=HZ f.body hf.body;by_cases h12:k<7
   ·have h12':(k:Int)<7:=by omega
    cases c1 with
    |false=>exact⟨false,by rw[FL12_0];simp[L12_0,h1,hlt,hix,h12,h12',g1],fun h=>by cases h⟩
    | true=>cases c2 with
     |false=>exact⟨false,by rw[FL12_0];simp[L12_0,h1,hlt,hix,h12,h12',g1,g2],fun h=>by cases h⟩
     | true=>cases c3 with
      |false=>exact⟨false,by rw[FL12_0];simp[L12_0,h1,hlt,hix,h12,h12',g1,g2,g3],fun h=>by cases h⟩
      | true=>
       obtain⟨b,hb,q⟩:=ih (k+1) (by omega) (by omega) (by
        rw[htk];intro x hx;rcases L3.1 hx with hx|hx
        ·exact hall x hx
        ·rw[L5]at hx;subst hx;exact g4 rfl)
       refine⟨b,?_,q⟩;rw[<- hb,FL12_0];simp[L12_0,h1,hlt,hix,h12,h12',g1,g2,g3,w3]
   ·have h12':¬(k:Int)<7:=by omega
    refine⟨b0,?_,fun h=>absurd (q0 h) (by omega)⟩;rw[<- hb0,FL12_0];simp[L12_0,h1,hlt,h12,h12']
 obtain⟨b,hb,q⟩:=key m.funcs.length 0 (by omega) (LZ _) (by simp);refine⟨b,?_,q⟩;rw[C12];have hb':ah (L12_0 (ai pg) ah) [.ip (ab m.av),.int .i64 0]=M.pure (.bool b):=hb;simp only[S12,mL,hb',cF]
end Go.Proofs.YtpmcemjkdkbicaaGreatDoor
