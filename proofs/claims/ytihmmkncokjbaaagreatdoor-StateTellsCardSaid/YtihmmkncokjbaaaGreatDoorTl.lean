/- What the functions compute, part 12. Conditions: bounds. -/
import Derived.Test.YtihmmkncokjbaaaGreatDoorTk
set_option linter.defProp false
set_option linter.unusedSimpArgs false
set_option linter.unusedVariables false
namespace Go.Proofs.YtihmmkncokjbaaaGreatDoor
open Go Go.Av Go.Av.Ap
set_option maxRecDepth 100000
theorem GO(s:aR){a b:Nat}(h0:a<=b)(h1:b<=s.length):cV T 9 (.str s) (some (.int .i64 (a:Int))) (some (.int .i64 (b:Int))) none=some (.str ((s.drop a).take (b-a))):=by
 have e0:cV T 9 (.str s) (some (.int .i64 (a:Int))) (some (.int .i64 (b:Int))) none=(match cg (some (.int .i64 (b:Int))) s.length s.length with|none=>none|some h=>match cg (some (.int .i64 (a:Int))) 0 h with|none=>none|some l=>some (AV.str ((s.take h).drop l))):=rfl;have b1:cg (some (.int .i64 (b:Int))) s.length s.length=some b:=by simp[cg];omega
 have b2:cg (some (.int .i64 (a:Int))) 0 b=some a:=by simp[cg];omega
 rw[e0,b1];simp only;rw[b2];simp only;rw[S3]
def yZ(v:Val):aW 4 v.av=ay v.av:=by simp
def GE{d:Nat}{s:aR}{v:Val}{r:aR}(h:fq d s=some (v,r)):r.length<=s.length/\s.drop (s.length-r.length)=r:=by
 obtain⟨e,-⟩:=fU d s v r (kG d s _ h);have hl:s.length=(eL d v).length+r.length:=by rw[<- e];simp
 refine⟨by omega,?_⟩;rw[hl,Nat.add_sub_cancel,<- e,List.drop_left]
def lE(s:aR)(d:Nat)(k0:List AV->M AV)(j1 j2 j3 j4 lv:AV)(ns:List aR)(vs:List Val)(o:Option (aR×aR)):M AV:=match o with
 |none=>ay (gb s none)
 |some (n,r)=>if 8<=ns.length then ay (gb s none)else match fq d r with
  |none=>ay (gb s none)
  |some (v,r')=>k0 [.str s,.int .i64 ((s.length-r'.length:Nat):Int),lv,j1,j2,j3,j4,.int .i64 2,.int .i64 0,strs (ns++[n]),vals (vs++[v])]
theorem xB(k0:List AV->M AV)(s:aR)(a d:Nat)(ha:a<=s.length)(hs:s.length<=1000000)(hd:d<=8)(ns:List aR)(vs:List Val)(hns:ns.length<=8)(hvs:vs.length<=8)(j1 j2 j3 j4:AV)(hrd:∀k,k<=s.length->aj pg 57 [.str s,.int .i64 (k:Int),.int .i64 (d:Int)]=ay (gb s (fq d (s.drop k)))):∀(r e:Nat),a<=e->e+r=a+((s.drop a).takeWhile cN).length->
  ao (L57_1 (aj pg) ao k0) [.str s,.int .i64 (a:Int),.int .i64 ((d+1:Nat):Int),.int .i64 (e:Int),j1,j2,j3,j4,.int .i64 2,.int .i64 0,strs ns,vals vs]=lE s d k0 j1 j2 j3 j4 (.int .i64 ((d+1:Nat):Int)) ns vs (uc (s.drop a)):=by
 obtain⟨n,t1,t2,t3,t4,t5,t6⟩:=Kj cN s a;have hn:a+n<=s.length:=by omega
 intro r
 induction r with
 | zero=>
  intro e he hr;have hee:e=a+n:=by omega
  subst hee;have hstop:∀f:AV->M AV,(af (ah (aw T .lss 3 (.int .i64 ((a+n:Nat):Int)) (.int .i64 s.length))) fun v12=>af (aF v12 true 1 (af (ah (bV T 9 (.str s) (.int .i64 ((a+n:Nat):Int)))) (fun v13=>af (aj pg 101 [v13]) (fun v14=>ay [v14])))) (fun v15=>af (ah (aI v12 (ae v15 0) (AV.bool false))) f))=f (.bool false):=fun f=>by
   by_cases hlt:a+n<s.length
   ·have hix:=vd hlt;have hst:=t6 hlt;have h1:((a+n:Nat):Int)<(s.length:Int):=by omega
    generalize s[a+n]=c at hix hst;have hle:=t101 c;rw[hst]at hle;simp only[db,PT h1,ak,aL,hix,hle,ap,ax,aY]
   ·have h1:¬((a+n:Nat):Int)<(s.length:Int):=by omega
    simp only[db,PX h1,ak,dl,ap,List.replicate,ax,aS]
  have hsl:=GO s (a:=a) (b:=a+n) (by omega) hn;rw[Sm,<- t1]at hsl;rw[FL57_1];simp only[L57_1,ax,aE,dz,ak];rw[hstop];have emp:aT T false 45 []=some (Val.mk 0 0 [] []).av:=rfl;have hnm:uc (s.drop a)=if n≠0/\(s.drop (a+n)).head? = some 61 then some ((s.drop a).takeWhile cN,s.drop (a+n+1))else none:=by
   unfold uc;rw[t2,vP];have:(s.drop a).takeWhile cN≠[]↔n≠0:=by rw[t3];simp
   simp only[this]
  rw[hnm];by_cases h0:n=0
  ·have q:((a+n:Nat):Int)=(a:Int):=by omega
   rw[if_neg (by simp[h0])];simp only[am,PM,PP,mH,PT q,ak,dm,ap,List.replicate,ax,aY,PQ,AF,ly,lB,lE,gb]
  ·have q:¬((a+n:Nat):Int)=(a:Int):=by omega
   by_cases h1:a+n<s.length
   ·have g1:¬(s.length:Int)<=((a+n:Nat):Int):=by omega
    have hix:=vd h1;rw[uZ h1];generalize s[a+n]=c at hix;have n1:=xL c 61;simp only[UInt8.reduceToNat,RD]at n1;by_cases h61:c=61
    ·rw[h61,QL]at n1;rw[h61]at hix;subst h61;rw[PS ⟨h0,rfl⟩];by_cases h8:8<=ns.length
     ·have g8:(8:Int)<=(ns.length:Int):=by omega
      simp only[am,PM,PP,mH,PX q,ak,aL,ap,ax,aS,nO,PX g1,hix,Dj,n1,Qa,dA,PT g8,PQ,AF,ly,lB,lE,gb,PS h8]
     ·have g8:¬(8:Int)<=(ns.length:Int):=by omega
      have hc:=hrd (a+n+1) (by omega);have i1:=kd (k:=a+n) (by omega);have i2:aw T .sub 3 (.int .i64 ((d+1:Nat):Int)) (.int .i64 1)=some (.int .i64 (d:Int)):=by
       show some (AV.int .i64 (IntKind.i64.wrap (((d+1:Nat):Int)-1)))=_;rw[bd (by omega) (by omega)];congr 2;omega
      simp only[am,PM,PP,mH,PX q,ak,aL,ap,ax,aS,nO,PX g1,hix,Dj,n1,Qa,dA,PX g8,lE,if_neg h8,i1,i2,hc];cases hr2:fq d (s.drop (a+n+1))with
      |none=>
       simp only[gb,aO,PU,PZ,ak,yZ,ap,db,am,show decide ((-1:Int)<0)=true from rfl,PQ,AF,ly,lB]
      |some x=>
       obtain⟨v,r'⟩:=x;obtain⟨hl,-⟩:=GE hr2;rw[Rj]at hl;have g9:¬((s.length:Int)-r'.length)<0:=by omega
       have g10:((s.length:Int)-r'.length)=((s.length-r'.length:Nat):Int):=by omega
       have a1:cf T 22 (strs ns) (strs [(s.drop a).takeWhile cN])=some (strs (ns++[(s.drop a).takeWhile cN])):=oC (by simp;omega);have a2:cf T 30 (vals vs) (vals [v])=some (vals (vs++[v])):=kj (by simp;omega);have c1:∀l:List aR,cp (strs l)=ay (strs l):=fun _=>rfl;have c2:∀l:List Val,cp (vals l)=ay (vals l):=fun _=>rfl;simp only[gb,aO,PU,PZ,ak,yZ,ap,db,am,PX g9,PM,PP,hsl,LM,a1,c1,qm,LN,a2,c2,<- g10]
    ·have hcf:(c== 61)=false:=Qj.2 h61;rw[hcf]at n1;rw[if_neg (by simp[h61])];simp only[am,PM,PP,mH,PX q,ak,aL,ap,ax,aS,nO,PX g1,hix,Dj,n1,Qd,dm,List.replicate,aY,PQ,AF,ly,lB,lE,gb]
   ·have g1:(s.length:Int)<=((a+n:Nat):Int):=by omega
    have hz:s.drop (a+n)=[]:=Qg (by omega);rw[hz,if_neg (by simp)];simp only[am,PM,PP,mH,PX q,ak,aL,ap,ax,aS,nO,PT g1,dm,List.replicate,aY,PQ,AF,ly,lB,lE,gb]
 |succ r IH=>
  intro e he hr;have hlt:e<s.length:=by omega
  have hix:=vd hlt;have hst:=t5 e hlt he (by omega);have h1:(e:Int)<(s.length:Int):=by omega
  generalize s[e]=c at hix hst;have hle:=t101 c;rw[hst]at hle;have ih:=IH (e+1) (by omega) (by omega);rw[FL57_1,<- ih];simp only[L57_1,ax,aE,dz,db,PT h1,ak,aL,hix,hle,ap,aY,am,PQ,kd (k:=e) (by omega)]
def GV{r s:aR}(h:r <:+ s):s.drop (s.length-r.length)=r:=(List.suffix_iff_eq_drop.1 h).symm
def vM{r s:aR}(h:r <:+ s):r.length<=s.length:=h.length_le
def Bz{d:Nat}{s:aR}{v:Val}{r:aR}(h:fq d s=some (v,r)):r <:+ s:=⟨_,(fU d s v r (kG d s _ h)).1⟩
def Gm{s n r:aR}(h:gZ s=some (n,r)):r <:+ s:=⟨n++[61],by rw[(lV h).1];simp⟩
theorem Ds(s:aR)(d:Nat)(k0:List AV->M AV)(j1 j2 j3 j4 lv:AV)(ns:List aR)(vs:List Val)(f:Nat)(t:aR)(ht:t <:+ s)(hf:t.length<f+2)(hk:∀(at':Nat)(n:aR)(v:Val),at'<=s.length->(s.drop at').length<f->ns.length<8->k0 [.str s,.int .i64 (at':Int),lv,j1,j2,j3,j4,.int .i64 2,.int .i64 0,strs (ns++[n]),vals (vs++[v])]=ay (gb s (gh (fq d) f (ns++[n]) (vs++[v]) (s.drop at')))):lE s d k0 j1 j2 j3 j4 lv ns vs (uc t)=ay (gb s (match gZ t with
  |none=>none
  |some (n,r)=>if 8<=ns.length then none else match fq d r with
   |none=>none
   |some (v,r')=>gh (fq d) f (ns++[n]) (vs++[v]) r')):=by
 rw[Gl];cases hn:gZ t with
 |none=>rfl
 | some p=>
  obtain⟨n,r⟩:=p;unfold lE;simp only;by_cases h8:8<=ns.length
  ·rw[PS h8,PS h8]
  ·rw[if_neg h8,if_neg h8];cases hr:fq d r with
   |none=>rfl
   |some q=>
    obtain⟨v,r'⟩:=q;have s1:=Bz hr;have s3:r' <:+ s:=s1.trans ((Gm hn).trans ht);have l1:=rZ hn;have l2:=vM s1;have l3:=vM s3;have e:=hk (s.length-r'.length) n v (by omega) (by rw[Rj];omega) (by omega);rw[GV s3]at e;exact e
theorem zo(s:aR)(d:Nat)(hs:s.length<=1000000)(hd:d<=8)(j1 j2 j3 j4:AV)(hrd:∀k,k<=s.length->aj pg 57 [.str s,.int .i64 (k:Int),.int .i64 (d:Int)]=ay (gb s (fq d (s.drop k)))):∀(f a:Nat)(ns:List aR)(vs:List Val),(s.drop a).length<f->a<=s.length->ns.length=vs.length->ns.length<=8->
  ao (L57_2 (aj pg) ao) [.str s,.int .i64 (a:Int),.int .i64 ((d+1:Nat):Int),j1,j2,j3,j4,.int .i64 2,.int .i64 0,strs ns,vals vs]=ay (gb s (gh (fq d) f ns vs (s.drop a))):=by
 intro f
 induction f with
 |zero=>intro a ns vs h;omega
 | succ f IH=>
  intro a ns vs hf ha hl h8;rw[FL57_2,gh];by_cases h1:a<s.length
  ·have g1:(a:Int)<(s.length:Int):=by omega
   have hix:=vd h1;have hh:=uZ h1;have hc1:=vP s a;generalize hc:s[a]=c at hix hh;have n1:=xL c 125;simp only[UInt8.reduceToNat,RD]at n1;by_cases h125:c=125
   ·rw[show (c== 125)=true from Qk.2 h125]at n1;rw[PS (by rw[hh,h125]),hc1];have g2:¬(s.length:Int)<=(a:Int):=by omega
    have i1:=kd (k:=a) (by omega);have e:((a+1:Nat):Int)=(s.length:Int)-(s.drop (a+1)).length:=by rw[Rj];omega
    show _=ay (AV.tup [AV.agg [.int .i64 2,.int .i64 0,strs ns,vals vs],.int .i64 ((s.length:Int)-(s.drop (a+1)).length)]);rw[<- e];have cn:az 4 [] (.agg [.int .i64 2,.int .i64 0,strs ns,vals vs])=ay (.agg [.int .i64 2,.int .i64 0,strs ns,vals vs]):=rfl;simp only[L57_2,ax,aE,dz,db,PT g1,ak,aL,hix,Dj,n1,Qa,ap,aY,am,PM,PP,nO,PX g2,i1,cn,Hj]
   ·have hcf:(c== 125)=false:=Qj.2 h125;rw[hcf]at n1;rw[if_neg (by rw[hh];simpa using h125)];have hk:∀(at':Nat)(n:aR)(v:Val),at'<=s.length->(s.drop at').length<f->ns.length<8->ao (L57_2 (aj pg) ao) [.str s,.int .i64 (at':Int),.int .i64 ((d+1:Nat):Int),j1,j2,j3,j4,.int .i64 2,.int .i64 0,strs (ns++[n]),vals (vs++[v])]=ay (gb s (gh (fq d) f (ns++[n]) (vs++[v]) (s.drop at'))):=fun at' n v h1 h2 h3=>IH at' _ _ h2 h1 (by simp[hl]) (by simp;omega);have hstep:∀b:Nat,b<=s.length->a<=b->K57_0 (aj pg) ao (ao (L57_2 (aj pg) ao)) [.str s,.int .i64 (b:Int),.int .i64 ((d+1:Nat):Int),j1,j2,j3,j4,.int .i64 2,.int .i64 0,strs ns,vals vs]=ay (gb s (match gZ (s.drop b)with
      |none=>none
      |some (n,r)=>if 8<=ns.length then none else match fq d r with
       |none=>none
       |some (v,r')=>gh (fq d) f (ns++[n]) (vs++[v]) r')):=fun b hb hab=>by
     have:=xB (ao (L57_2 (aj pg) ao)) s b d hb hs hd ns vs h8 (by omega) j1 j2 j3 j4 hrd ((s.drop b).takeWhile cN).length b (P5 _) rfl
     rw[Ds s d _ j1 j2 j3 j4 _ ns vs f (s.drop b) (List.drop_suffix _ _) (by rw[Rj]at hf |-;omega) hk]at this;exact this
    have hs2:=hstep a ha (P5 _);cases ns with
    |nil=>
     have g0:¬(0:Int)<((([]:List aR).length:Nat):Int):=by simp
     simp only[L57_2,ax,aE,dz,db,PT g1,ak,aL,hix,Dj,n1,Qd,ap,aY,am,PQ,ci,dA,qj,PX g0,PM,PP,hs2];rfl
    | cons m ms=>
     have g0:(0:Int)<(((m:: ms).length:Nat):Int):=by simp only[P4];omega
     have n2:=xL c 44;simp only[UInt8.reduceToNat,RD]at n2;have hX:gG (m:: ms).isEmpty (s.drop a)=if c=44 then gZ (s.drop (a+1))else none:=by
      show (if(false:Bool)=true then _ else if(s.drop a).head? = some 44 then gZ (s.drop a).tail else none)=_;rw[if_neg (by simp),hh,hc1];simp only[PN]
     rw[hX];by_cases h44:c=44
     ·rw[show (c== 44)=true from Qk.2 h44]at n2;rw[PS h44];have i1:=kd (k:=a) (by omega);have hs3:=hstep (a+1) (by omega) (by omega);simp only[L57_2,ax,aE,dz,db,PT g1,ak,aL,hix,Dj,n1,n2,Qd,Qa,ap,aY,am,PQ,ci,dA,qj,PT g0,PM,PP,i1,hs3];rfl
     ·have h44f:(c== 44)=false:=Qj.2 h44;rw[h44f]at n2;rw[if_neg h44];simp only[L57_2,ax,aE,dz,db,PT g1,ak,aL,hix,Dj,n1,n2,Qd,ap,aY,am,PQ,ci,dA,qj,PT g0,AF,ly,lB,gb]
  ·have g1:¬(a:Int)<(s.length:Int):=by omega
   have g2:(s.length:Int)<=(a:Int):=by omega
   have hz:s.drop a=[]:=Qg (by omega);rw[hz];have hX:gG ns.isEmpty ([]:aR)=none:=by cases ns<;>rfl
   rw[if_neg (by simp),hX];simp only[L57_2,ax,aE,dz,db,PX g1,ak,dl,ap,List.replicate,aS,am,PM,PP,nO,PT g2,PQ,AF,ly,lB,gb]
theorem It:∀d:Nat,fq d []=none
 |0=>rfl
 |d+1=>by
  rw[fq,if_neg (by simp),List.takeWhile_nil,Bl (by decide) (by decide)];rfl
theorem t57(s:aR)(hs:s.length<=1000000):∀d:Nat,d<=8->∀k:Nat,k<=s.length->aj pg 57 [.str s,.int .i64 (k:Int),.int .i64 (d:Int)]=ay (gb s (fq d (s.drop k))):=by
 intro d
 induction d with
 | zero=>
  intro _ k hk;have h1:cl aB (.str s)= .str s:=rfl;have h2:∀n:Int,cl aB (.int .i64 n)= .int .i64 n:=fun _=>rfl;rw[C57,h1,h2,h2];have e:S57 (aj pg) ao (.str s) (.int .i64 (k:Int)) (.int .i64 ((0:Nat):Int))=ay (gb s (fq 0 (s.drop k))):=by
   by_cases hg:(s.length:Int)<=(k:Int)
   ·simp only[S57,dz,nO,PT hg,ak,dm,ap,List.replicate,ax,aY,am,PQ,AF,ly,lB,fq,gb]
   ·have g:((0:Nat):Int)<1:=by omega
    simp only[S57,dz,nO,PX hg,ak,aL,ap,ax,aS,db,PT g,am,PQ,AF,ly,lB,fq,gb]
  rw[e];exact bw (Kb _ _)
 | succ d ih=>
  intro hd k hk;have h1:cl aB (.str s)= .str s:=rfl;have h2:∀n:Int,cl aB (.int .i64 n)= .int .i64 n:=fun _=>rfl;rw[C57,h1,h2,h2];have e:S57 (aj pg) ao (.str s) (.int .i64 (k:Int)) (.int .i64 ((d+1:Nat):Int))=ay (gb s (fq (d+1) (s.drop k))):=by
   by_cases hg:(s.length:Int)<=(k:Int)
   ·have hz:s.drop k=[]:=Qg (by omega);rw[hz,It];simp only[S57,dz,nO,PT hg,ak,dm,ap,List.replicate,ax,aY,am,PQ,AF,ly,lB,gb]
   ·have g:¬((d+1:Nat):Int)<1:=by omega
    have hk1:k<s.length:=by omega
    have hix:=vd hk1;have hh:=uZ hk1;have hc1:=vP s k;generalize hc:s[k]=c at hix hh;have n1:=xL c 123;simp only[UInt8.reduceToNat,RD]at n1;by_cases hb:c=123
    ·rw[show (c== 123)=true from Qk.2 hb]at n1;rw[fq,PS (by rw[hh,hb]),hc1];have bb:aT T true 45 [(0,.int .i64 2)]=some (.agg [.int .i64 2,.int .i64 0,.hn,.hn]):=rfl;have cn:az 4 [2,3] (.agg [.int .i64 2,.int .i64 0,.hn,.hn])=ay (.agg [.int .i64 2,.int .i64 0,.hn,.hn]):=rfl;have i1:=kd (k:=k) (by omega);have L:=zo s d hs (by omega) (.int .i64 0) (.int .i64 0) (.sl []) (.sl []) (ih (by omega)) (s.drop k).length (k+1) [] [] (by simp only[Rj];omega) (by omega) rfl (by simp);have L':ao (L57_2 (aj pg) ao) [.str s,.int .i64 ((k+1:Nat):Int),.int .i64 ((d+1:Nat):Int),.int .i64 0,.int .i64 0,.sl [],.sl [],.int .i64 2,.int .i64 0,.sl [],.sl []]=_:=L;simp only[S57,dz,nO,PX hg,ak,aL,ap,ax,aE,aS,db,PX g,am,PM,PP,hix,Dj,n1,Qa,bb,cn,i1,Hj,L']
    ·have hbf:(c== 123)=false:=Qj.2 hb;rw[hbf]at n1;have hne:¬(s.drop k).head? = some 123:=by rw[hh];simpa using hb
     rw[fq,if_neg hne];have W:=G8 s k hk hs (.int .i64 0) (.int .i64 0) (.sl []) (.sl []) ((s.drop k).takeWhile dn).length k (P5 _) rfl;simp only[S57,dz,nO,PX hg,ak,aL,ap,ax,aS,db,PX g,am,PM,PP,hix,Dj,n1,Qd,PQ,W];rfl
  rw[e];exact bw (Kb _ _)
def nf:Option (List Val)->AV
 |some l=>.tup [vals l,.int .i64 0]
 |none=>.tup [.sl [],.int .i64 7]
def cm:Except Int (List Val)->AV
 |.ok l=>.tup [vals l,.int .i64 0]
 |.error c=>.tup [.sl [],.int .i64 c]
def xw(o:Option (List Val)):nf o=cm (jL o):=by cases o<;>rfl
def ka(g)(r:Except Int (List Val)):cl g (cm r)=cm r:=by cases r<;>simp[cm,cl,eM]
theorem Hh(a b:Int):aw T .lss 3 (.int .i64 a) (.int .i64 b)=some (.bool (decide (a<b))):=rfl
theorem yF(a b:Int):aw T .neq 39 (.int .i64 a) (.int .i64 b)=some (.bool (a != b)):=rfl
theorem HQ(a b:Int):aw T .eql 39 (.int .i64 a) (.int .i64 b)=some (.bool (a== b)):=rfl
def Mt(v:Val):aG T 30 1 [(0,v.av)]=some (vals [v]):=by rw[v.av_eq];simp[vals,dP,v.av_eq];rfl
theorem N7(s:aR):aG T 22 1 [(0,.str s)]=some (strs [s]):=rfl
def K6(f:cE):ai T 37 (.ip (aa (bZ f)))=some (bZ f):=by simp
theorem Od(f:cE):ab T 37 (.ip (aa (bZ f))) 0=some (.ip ((aa (bZ f)).drop 0)):=rfl
theorem HS(f:cE):ab T 37 (.ip (aa (bZ f))) 1=some (.ip ((aa (bZ f)).drop 1)):=rfl
def Om(f:cE):ai T 9 (.ip ((aa (bZ f)).drop 0))=some (.str f.1):=by simp
def H3(f:cE):ai T 35 (.ip ((aa (bZ f)).drop 1))=some f.2.av:=by simp
def ND(v:Val):ai T 45 (.ip (aa v.av))=some v.av:=by simp
def LS(e:Exp):ai T 66 (.ip (aa e.av))=some e.av:=by simp
def KR(f:cE):aW 3 (bZ f)=ay (bZ f):=by simp
theorem kf(b:Bool):eX UnOp.not (.bool b)=some (.bool (!b)):=rfl
def t82(x f:cE):aj pg 82 [bZ x,.ip (aa (bZ f))]=ay (.bool (x.1== f.1)):=by
 rw[C82];simp[S82,cl,eM]
theorem Gh(fr to:List cE)(vs:List Val)(hfr:fr.length<=140737488355328)(hfv:fr.length=vs.length)(hto:to.length<=1000000)(ht:∀f∈to,f.2.Lim)(hz:∀v∈vs,v.sz<=1099511627776):
  ∀(B A:List cE)(acc:List Val),A++B=to->acc.length=A.length->ao (L44_0 (aj pg) ao) [bm fr,vals vs,vals acc,bm to,.int .i64 to.length,.int .i64 A.length]=ay (nf (dG fr vs B acc))
 |[],A,acc,e,ha=>by
  rw[Qq]at e;subst e;have h1:¬((A.length:Int)<(A.length:Int)):=by omega
  rw[FL44_0];simp -implicitDefEqProofs only[L44_0,ax,aE,Hh,ak,am,PW,if_neg h1,dG,nf]
 | f:: B,A,acc,e,ha=>by
  have hlen:A.length+(B.length+1)=to.length:=by rw[<- e];simp
  have h1:(A.length:Int)<(to.length:Int):=by omega
  have hix:=gp (l:=to) (n:=(A.length:Int)) (by omega) h1;rw[P8,PY to A.length (by omega),show to[A.length]'(by omega)=f by simp[<- e]]at hix;have hi:=t81 (.fn (.func 82) [] [.ip (aa (bZ f))]) (fun x=>x.1== f.1) fr (by omega) (fun g=>by simp[cl,eM]) (fun x _=>t82 x f);have hfa:bj (fun x:cE=>x.1== f.1) fr 0=dM fr f.1:=rfl;rw[hfa]at hi;have hw:IntKind.i64.wrap ((A.length:Int)+1)=((A.length+1:Nat):Int):=cr (by omega);rw[FL44_0,dG];rcases oQ (fun x:cE=>x.1== f.1) fr 0 with h2|h2
  ·rw[hfa]at h2;have h3:dM fr f.1<0:=by omega
   simp -implicitDefEqProofs only[L44_0,ax,aE,Hh,ak,am,PW,PS h1,hix,K6,KR,ap,hi,PT h3,dm,List.replicate,aY,PQ,PS (Or.inl h3),nf]
  ·rw[hfa]at h2;have h3:¬dM fr f.1<0:=by omega
   have hlt:(dM fr f.1).toNat<vs.length:=by omega
   have hvx:=hM (l:=vs) (n:=dM fr f.1) (by omega) (by omega);have hmem:vs[(dM fr f.1).toNat]! ∈vs:=by rw[PY vs _ hlt];exact P2 hlt
   have hH:=t20 f.2 vs[(dM fr f.1).toNat]! (ht f (by rw[<- e];simp)) (hz _ hmem);generalize vs[(dM fr f.1).toNat]! = v at hvx hH |-;cases hx:fc f.2 v with
   |false=>
    rw[hx]at hH;simp -implicitDefEqProofs only[L44_0,ax,aE,Hh,ak,am,PW,PS h1,hix,K6,KR,ap,hi,PX h3,aL,HS,H3,hvx,ND,hH,bA,kf,Qd,aS,PQ,PS (Or.inr rfl),or_true,nf]
   |true=>
    rw[hx]at hH;have ih:=Gh fr to vs hfr hfv hto ht hz B (A++[f]) (acc++[v]) (by rw[<- e];simp) (by simp[ha]);have eA:(A++[f]).length=A.length+1:=by simp
    rw[eA]at ih;have hap:cf T 30 (vals acc) (vals [v])=some (vals (acc++[v])):=kj (by simp;omega);have hc:¬(dM fr f.1<0\/true=false):=by simp;omega
    simp -implicitDefEqProofs only[L44_0,ax,aE,Hh,ak,am,PW,PS h1,hix,K6,KR,ap,hi,PX h3,aL,HS,H3,hvx,ND,hH,bA,kf,Qa,aS,PM,PP,Mt,hap,cy,hw,ih,if_neg hc]
def t44(fr to:List cE)(vs:List Val)(hfr:fr.length<=140737488355328)(hfv:fr.length=vs.length)(hto:to.length<=1000000)(ht:∀f∈to,f.2.Lim)(hz:∀v∈vs,v.sz<=1099511627776):aj pg 44 [bm fr,bm to,vals vs]=ay (cm (jL (dG fr vs to []))):=by
 have h:=Gh fr to vs hfr hfv hto ht hz to [] [] rfl rfl;have h':ao (L44_0 (aj pg) ao) [bm fr,vals vs,.sl [],bm to,.int .i64 to.length,.int .i64 0]=ay (cm (jL (dG fr vs to []))):=by rw[<- xw];exact h
 rw[C44,gg,gg,eh];have e:S44 (aj pg) ao (bm fr) (bm to) (vals vs)=ay (cm (jL (dG fr vs to []))):=by
  simp -implicitDefEqProofs only[S44,bU,ak,h']
 rw[e];exact bw fun g=>ka g _
def ct(a b:cE):Bool:=a.1== b.1&&(dx a.2&&dx b.2&&g7 a.2 b.2)
def t39(a b:Ty)(ha:a.Lim)(hb:b.Lim):aj pg 39 [a.av,b.av]=ay (.bool (dx a&&dx b&&g7 a b)):=by
 have h1:=t23 a ha;have h2:=t23 b hb;have h3:=t79 _ a b (P5 _) ha;rw[C39];simp[S39,h1,h2,h3]
def t84(a b:cE)(ha:a.2.Lim)(hb:b.2.Lim):aj pg 84 [bZ a,bZ b]=ay (.bool (ct a b)):=by
 have h:=t39 a.2 b.2 ha hb;rw[C84];simp[S84,h,ct]
def t45(old now:Ap.Mod)(ho:old.Lim)(hn:now.Lim):aj pg 45 [old.av,now.av]=ay (.bool (fZ ct old now)):=by
 have hq:=t83 (.fn (.func 84) [] []) ct now.old old.vars (by have:=hn.old;omega) (fun g=>rfl) (fun x hx y hy=>t84 x y (hn.oty x hx) (ho.vty y hy));have hl:(cS ct now.old old.vars)=(decide (now.old.length=old.vars.length)&&cS ct now.old old.vars):=by
  by_cases h:now.old.length=old.vars.length
  ·simp[h]
  ·rw[eZ _ _ _ h];simp
 rw[hl]at hq;have e1:∀a b:Nat,((a:Int)== (b:Int))=decide (a=b):=fun a b=>by
  rw[QG];simp
 have hcm:aW 3 (AV.agg [bm now.old,bE now.forward,bE now.back])=ay (AV.agg [bm now.old,bE now.forward,bE now.back]):=by
  rw[bu (rfl:cz 3 (AV.agg [bm now.old,bE now.forward,bE now.back])=true)];rfl
 rw[C45];unfold fZ;simp[S45,hq,hcm];rfl
def tB{e:Exp}{ns:List aR}{vs:List Val}{v:Val}{s:Ms}(h:lz e ns vs= .ok v s):Rv v:=by
 unfold lz at h;split at h
 ·rename_i hc;exact (li 100000 (-1) ns vs e ⟨hc.1,fun v hv=>P7.1 hc.2 v hv⟩ (dO [] 100000 []) ⟨fun l hl=>(by cases hl),fun c hc=>(by cases hc)⟩).2.2 v s h
 ·cases h
theorem Bb(fr to:List cE)(ns:List aR)(vs:List Val)(l:List Exp)(hl:l.length=to.length)(hto:to.length<=1000000)(ht:∀f∈to,f.2.Lim)(hz:br vs<=4611686018427387904)(hns:ns.length<=1000000)(he:∀e∈l,bh e):
  ∀(B A:List cE)(BE AE:List Exp)(acc:List Val),A++B=to->AE++BE=l->AE.length=A.length->acc.length=A.length->ao (L46_0 (aj pg) ao) [vals vs,bE l,strs ns,vals acc,bm to,.int .i64 to.length,.int .i64 A.length]=ay (cm (dH ns vs B BE acc))
 |[],A,BE,AE,acc,e,e2,hA,ha=>by
  rw[Qq]at e;subst e;have h1:¬((A.length:Int)<(A.length:Int)):=by omega
  have hB:BE=[]:=RU.1 (by have:=PR List.length e2;simp at this;omega);subst hB;rw[FL46_0];simp -implicitDefEqProofs only[L46_0,ax,aE,Hh,ak,am,PW,if_neg h1,dH,cm]
 |f:: B,A,[],AE,acc,e,e2,hA,ha=>by
  have:=PR List.length e2
  have h2:=PR List.length e;simp at this h2;omega
 | f:: B,A,x:: BE,AE,acc,e,e2,hA,ha=>by
  have hlen:A.length+(B.length+1)=to.length:=by rw[<- e];simp
  have h1:(A.length:Int)<(to.length:Int):=by omega
  have hix:=gp (l:=to) (n:=(A.length:Int)) (by omega) h1;rw[P8,PY to A.length (by omega),show to[A.length]'(by omega)=f by simp[<- e]]at hix;have hex:=kL (l:=l) (n:=(A.length:Int)) (by omega) (by omega);rw[P8,PY l A.length (by omega),show l[A.length]'(by omega)=x by simp[<- e2,<- hA]]at hex;have hcall:=t85 x ns vs (he x (by rw[<- e2];simp)) (by omega) hz;have hw:IntKind.i64.wrap ((A.length:Int)+1)=((A.length+1:Nat):Int):=cr (by omega);rw[FL46_0,dH];cases hr:lz x ns vs with
  | er c s=>
   rw[hr]at hcall;have hc0:(c != 0)=true:=by
    have:=lN hr
    simpa using this
   simp -implicitDefEqProofs only[L46_0,ax,aE,Hh,ak,am,PW,PS h1,hix,K6,KR,ap,hex,LS,hcall,fp,aO,PU,PZ,bu (cL default),yF,hc0,PQ,cm]
  | ok v s=>
   rw[hr]at hcall;have hv:=tB hr;have hsz:=mc hv;have hH:=t20 f.2 v (ht f (by rw[<- e];simp)) (by omega);have h00:((0:Int) != 0)=false:=rfl;have hvv:∀v:Val,AV.agg (aa v.av)=v.av:=fun v=>by simp
   cases hx:fc f.2 v with
   |false=>
    rw[hx]at hH;simp -implicitDefEqProofs only[L46_0,ax,aE,Hh,ak,am,PW,PS h1,hix,K6,KR,ap,hex,LS,hcall,fp,aO,PU,PZ,bu (cL v),hvv,yF,h00,PM,PP,HS,H3,ND,hH,kf,Qd,PQ,hx,cm]
   |true=>
    rw[hx]at hH;have ih:=Bb fr to ns vs l hl hto ht hz hns he B (A++[f]) BE (AE++[x]) (acc++[v]) (by rw[<- e];simp) (by rw[<- e2];simp) (by simp[hA]) (by simp[ha]);have eA:(A++[f]).length=A.length+1:=by simp
    rw[eA]at ih;have hap:cf T 30 (vals acc) (vals [v])=some (vals (acc++[v])):=kj (by simp;omega);simp -implicitDefEqProofs only[L46_0,ax,aE,Hh,ak,am,PW,PS h1,hix,K6,KR,ap,hex,LS,hcall,fp,aO,PU,PZ,bu (cL v),hvv,yF,h00,PM,PP,HS,H3,ND,hH,kf,Qa,Mt,hap,cy,hw,ih,PS hx]
theorem Bc(fr to:List cE)(vs:List Val)(l:List Exp)(hl:l.length=to.length)(hto:to.length<=1000000)(hfr:fr.length<=1000000)(ht:∀f∈to,f.2.Lim)(hz:br vs<=4611686018427387904)(he:∀e∈l,bh e):
  ∀(B A:List cE),A++B=fr->ao (L46_1 (aj pg) ao) [bm to,vals vs,bE l,strs (A.map (·.1)),bm fr,.int .i64 fr.length,.int .i64 A.length]=ay (cm (dH (fr.map (·.1)) vs to l []))
 |[],A,e=>by
  rw[Qq]at e;subst e;have h1:¬((A.length:Int)<(A.length:Int)):=by omega
  have h0:=Bb A to (A.map (·.1)) vs l hl hto ht hz (by simpa using hfr) he to [] l [] [] rfl rfl rfl rfl;have h0':ao (L46_0 (aj pg) ao) [vals vs,bE l,strs (A.map (·.1)),.sl [],bm to,.int .i64 to.length,.int .i64 0]=_:=h0;rw[FL46_1];simp -implicitDefEqProofs only[L46_1,ax,aE,Hh,ak,am,PW,if_neg h1,bU,h0']
 | f:: B,A,e=>by
  have hlen:A.length+(B.length+1)=fr.length:=by rw[<- e];simp
  have h1:(A.length:Int)<(fr.length:Int):=by omega
  have hix:=gp (l:=fr) (n:=(A.length:Int)) (by omega) h1;rw[P8,PY fr A.length (by omega),show fr[A.length]'(by omega)=f by simp[<- e]]at hix;have hw:IntKind.i64.wrap ((A.length:Int)+1)=((A++[f]).length:Nat):=by rw[cr (by omega)];simp
  have hap:cf T 22 (strs (A.map (·.1))) (strs [f.1])=some (strs ((A++[f]).map (·.1))):=by
   rw[oC (by simp;omega)];simp
  have ih:=Bc fr to vs l hl hto hfr ht hz he B (A++[f]) (by rw[<- e];simp);rw[FL46_1];simp -implicitDefEqProofs only[L46_1,ax,aE,Hh,ak,am,PW,PS h1,hix,K6,KR,ap,Od,Om,N7,hap,cy,hw,ih]
def t46(fr to:List cE)(vs:List Val)(l:List Exp)(hl:l.length=to.length)(hto:to.length<=1000000)(hfr:fr.length<=1000000)(ht:∀f∈to,f.2.Lim)(hz:br vs<=4611686018427387904)(he:∀e∈l,bh e):aj pg 46 [bm fr,bm to,vals vs,bE l]=ay (cm (dH (fr.map (·.1)) vs to l [])):=by
 have h:=Bc fr to vs l hl hto hfr ht hz he fr [] rfl;have h':ao (L46_1 (aj pg) ao) [bm to,vals vs,bE l,.sl [],bm fr,.int .i64 fr.length,.int .i64 0]=_:=h;rw[C46,gg,gg,eh,AM];have e:S46 (aj pg) ao (bm fr) (bm to) (vals vs) (bE l)=ay (cm (dH (fr.map (·.1)) vs to l [])):=by
  simp -implicitDefEqProofs only[S46,bU,ak,h']
 rw[e];exact bw fun g=>ka g _
end Go.Proofs.YtihmmkncokjbaaaGreatDoor
namespace Go.Proofs.YtihmmkncokjbaaaGreatDoor
open Go Go.Av Go.Av.Ap
set_option maxRecDepth 100000
structure SMod (m:Ap.Mod):Prop where
 lim:m.Lim
 vars:m.vars.length<=1000000
 fw:∀e∈m.forward,bh e
 bk:∀e∈m.back,bh e
def j0(vs:List Val):Prop:=br vs<=1099511627776
def j0.mem{vs:List Val}(h:j0 vs):∀v∈vs,v.sz<=1099511627776:=fun v hv=>QQ (eJ hv) h
section
variable (m:Ap.Mod)
theorem tY:ai T 29 (.ip (aa m.av))=some m.av:=rfl
theorem fm2:ab T 29 (.ip (aa m.av)) 2=some (.ip ((aa m.av).drop 2)):=rfl
theorem fm5:ab T 29 (.ip (aa m.av)) 5=some (.ip ((aa m.av).drop 5)):=rfl
theorem fm6:ab T 29 (.ip (aa m.av)) 6=some (.ip ((aa m.av).drop 6)):=rfl
theorem qv:ai T 23 (.ip ((aa m.av).drop 2))=some (bm m.vars):=rfl
theorem yE:ai T 4 (.ip ((aa m.av).drop 5))=some (.bool m.moves):=rfl
theorem fg1:ab T 27 (.ip ((aa m.av).drop 6)) 1=some (.ip ((aa m.av).drop 7)):=rfl
theorem fg2:ab T 27 (.ip ((aa m.av).drop 6)) 2=some (.ip ((aa m.av).drop 8)):=rfl
theorem On:ai T 24 (.ip ((aa m.av).drop 7))=some (bE m.forward):=rfl
theorem Oo:ai T 24 (.ip ((aa m.av).drop 8))=some (bE m.back):=rfl
end
def mb(r:Except Int (List Val)):∃a b,cm r= .tup [a,b]:=by cases r<;>exact⟨_,_,rfl⟩
def t12(old now:Ap.Mod)(vs:List Val)(ho:SMod old)(hn:SMod now)(hv:j0 vs):aj pg 12 [old.av,now.av,vals vs]=ay (cm (dV ct old now vs)):=by
 have hm:=t43 old.vars vs ho.lim.vars ho.lim.vty hv.mem;have hz:br vs<=4611686018427387904:=QQ hv (by decide);rw[C12,eQ,eQ,eh];have e:S12 (aj pg) ao old.av now.av (vals vs)=ay (cm (dV ct old now vs)):=by
  unfold dV;cases hmm:dX old.vars vs with
  |false=>
   rw[hmm]at hm;simp -implicitDefEqProofs only[S12,fm2,qv,ak,hm,ap,kf,Qd,am,PQ,cm]
  | true=>
   rw[hmm]at hm;have hlen:old.vars.length=vs.length:=by simp only[dX,PO,PW]at hmm;exact hmm.1
   rw[if_neg (by simp)];cases hmo:now.moves with
   |false=>
    have hk:=t44 old.vars now.vars vs ho.lim.vars hlen hn.vars hn.lim.vty hv.mem;rw[PS rfl];obtain⟨a,b,hab⟩:=mb (jL (dG old.vars vs now.vars []));rw[hab]at hk |-;simp -implicitDefEqProofs only[S12,fm2,qv,ak,hm,ap,kf,Qa,Qd,am,PM,PP,PQ,fm5,yE,hmo,hk,aO,PU,PZ]
   | true=>
    have hl:=t45 old now ho.lim hn.lim;rw[if_neg (by simp)];cases hll:fZ ct old now with
    |false=>
     rw[hll]at hl;rw[PS rfl];simp -implicitDefEqProofs only[S12,fm2,qv,ak,hm,ap,kf,Qa,Qd,am,PM,PP,PQ,fm5,yE,hmo,tY,hl,cm]
    |true=>
     rw[hll]at hl;rw[if_neg (by simp)];have hf:now.forward.length=now.vars.length:=by simp only[fZ,PO,PW]at hll;exact hll.1.1
     have hk:=t46 old.vars now.vars vs now.forward hf hn.vars ho.vars hn.lim.vty hz hn.fw;obtain⟨a,b,hab⟩:=mb (dH (old.vars.map (·.1)) vs now.vars now.forward []);rw[hab]at hk |-;simp -implicitDefEqProofs only[S12,fm2,qv,ak,hm,ap,kf,Qa,am,PM,PP,fm5,yE,hmo,tY,hl,fm6,fg1,On,hk,aO,PU,PZ]
 rw[e];exact bw fun g=>ka g _
def t13(old now:Ap.Mod)(vs:List Val)(ho:SMod old)(hn:SMod now)(hv:j0 vs):aj pg 13 [old.av,now.av,vals vs]=ay (cm (iG ct old now vs)):=by
 have hm:=t43 now.vars vs hn.lim.vars hn.lim.vty hv.mem;have hz:br vs<=4611686018427387904:=QQ hv (by decide);rw[C13,eQ,eQ,eh];have e:S13 (aj pg) ao old.av now.av (vals vs)=ay (cm (iG ct old now vs)):=by
  unfold iG;cases hmm:dX now.vars vs with
  |false=>
   rw[hmm]at hm;simp -implicitDefEqProofs only[S13,fm2,qv,ak,hm,ap,kf,Qd,am,PQ,cm]
  | true=>
   rw[hmm]at hm;have hlen:now.vars.length=vs.length:=by simp only[dX,PO,PW]at hmm;exact hmm.1
   rw[if_neg (by simp)];cases hmo:now.moves with
   |false=>
    have hk:=t44 now.vars old.vars vs hn.lim.vars hlen ho.vars ho.lim.vty hv.mem;rw[PS rfl];obtain⟨a,b,hab⟩:=mb (jL (dG now.vars vs old.vars []));rw[hab]at hk |-;simp -implicitDefEqProofs only[S13,fm2,qv,ak,hm,ap,kf,Qa,Qd,am,PM,PP,PQ,fm5,yE,hmo,hk,aO,PU,PZ]
   | true=>
    have hl:=t45 old now ho.lim hn.lim;rw[if_neg (by simp)];cases hll:fZ ct old now with
    |false=>
     rw[hll]at hl;rw[PS rfl];simp -implicitDefEqProofs only[S13,fm2,qv,ak,hm,ap,kf,Qa,Qd,am,PM,PP,PQ,fm5,yE,hmo,tY,hl,cm]
    |true=>
     rw[hll]at hl;rw[if_neg (by simp)];have hf:now.back.length=old.vars.length:=by simp only[fZ,PO,PW]at hll;exact hll.1.2
     have hk:=t46 now.vars old.vars vs now.back hf ho.vars hn.vars ho.lim.vty hz hn.bk;obtain⟨a,b,hab⟩:=mb (dH (now.vars.map (·.1)) vs old.vars now.back []);rw[hab]at hk |-;simp -implicitDefEqProofs only[S13,fm2,qv,ak,hm,ap,kf,Qa,am,PM,PP,fm5,yE,hmo,tY,hl,fm6,fg2,Oo,hk,aO,PU,PZ]
 rw[e];exact bw fun g=>ka g _
def d8(a b:Val):Bool:=bc 4 a&&bc 4 b&&gf a b
mutual
theorem GM:(a b:Val)->gf a b=true->a=b
 |.mk k n ns vs,.mk k' n' ns' vs',h=>by
  simp only[gf,PO,Qk]at h;obtain⟨⟨⟨rfl,rfl⟩,rfl⟩,h⟩:=h;rw[um vs vs' h]
theorem um:(a b:List Val)->kh a b=true->a=b
 |[],[],_=>rfl
 |[],_:: _,h=>by simp[kh]at h
 |_:: _,[],h=>by simp[kh]at h
 |v:: a,w:: b,h=>by
  simp only[kh,PO]at h;rw[GM v w h.1,um a b h.2]
end
mutual
theorem Ae:(a:Val)->gf a a=true
 |.mk k n ns vs=>by simp[gf,pX vs]
theorem pX:(a:List Val)->kh a a=true
 |[]=>rfl
 |v:: a=>by simp[kh,Ae v,pX a]
end
def FU{t:Ty}{v:Val}(h:fc t v=true):bc 4 v=true:=by
 simp only[fc,PO]at h;exact h.2.1
theorem rU:∀ {l:List cE} {vs:List Val},cS (fun f v=>fc f.2 v) l vs=true->∀v∈vs,bc 4 v=true
 |[],[],_,v,hv=>by cases hv
 |f:: l,w:: vs,h,v,hv=>by
  simp only[cS,PO]at h;rcases Qm.1 hv with rfl|hv
  ·exact FU h.1
  ·exact rU h.2 v hv
 |[],_:: _,h,_,_=>by simp[cS]at h
 |_:: _,[],h,_,_=>by simp[cS]at h
theorem nq:∀(l:List Val),(∀v∈l,bc 4 v=true)->br l<=l.length*200000
 |[],_=>by simp[br]
 |v:: l,h=>by
  have h1:=mc (h v QS);have h2:=nq l fun w hw=>h w (QN _ hw);simp only[br,P4];omega
def ij{l:List cE}{vs:List Val}(h:dX l vs=true)(hl:l.length<=1000000):j0 vs:=by
 simp only[dX,PO,PW]at h
 have:=nq vs (rU h.2)
 unfold j0;omega
def t27(a b:Val)(ha:a.sz<=1099511627776)(hb:b.sz<=1099511627776):aj pg 27 [a.av,b.av]=ay (.bool (d8 a b)):=by
 have h:=t62 a b (by omega) (by omega);rw[C27];simp[S27,h,d8]
theorem rW{ns:List aR}{vs:List Val}:∀ {B:List cE} {es:List Exp} {acc:List Val} {c:Int},dH ns vs B es acc= .error c->c≠0
 | f:: B,e:: es,acc,c,h=>by
  rw[dH]at h;split at h
  ·rename_i hr;cases h;exact lN hr
  ·split at h
   ·exact rW h
   ·cases h;decide
 |[],es,acc,c,h=>by simp[dH]at h
 |_:: _,[],acc,c,h=>by simp[dH]at h
def pI{old now:Ap.Mod}{vs:List Val}{c:Int}(h:dV ct old now vs= .error c):c≠0:=by
 unfold dV at h;split at h
 ·cases h;decide
 ·split at h
  ·cases hk:dG old.vars vs now.vars []with
   |none=>rw[hk]at h;cases h;decide
   |some l=>rw[hk]at h;cases h
  ·split at h
   ·cases h;decide
   ·exact rW h
def wu{old now:Ap.Mod}{vs:List Val}{c:Int}(h:iG ct old now vs= .error c):c≠0:=by
 unfold iG at h;split at h
 ·cases h;decide
 ·split at h
  ·cases hk:dG now.vars vs old.vars []with
   |none=>rw[hk]at h;cases h;decide
   |some l=>rw[hk]at h;cases h
  ·split at h
   ·cases h;decide
   ·exact rW h
theorem t15(old now:Ap.Mod)(vs:List Val)(ho:SMod old)(hn:SMod now)(hv:j0 vs):aj pg 15 [old.av,now.av,vals vs]=ay (.bool (nd ct d8 old now vs)):=by
 have hF:=t12 old now vs ho hn hv;rw[C15,eQ,eQ,eh];have e:S15 (aj pg) ao old.av now.av (vals vs)=ay (.bool (nd ct d8 old now vs)):=by
  unfold nd;cases hf:dV ct old now vs with
  | error c=>
   rw[hf]at hF;have hc:(c != 0)=true:=by
    have hc0:c≠0:=pI hf;simpa using hc0
   simp -implicitDefEqProofs only[S15,tY,ak,hF,ap,cm,aO,PU,PZ,yF,hc,am,PQ]
  | ok l=>
   rw[hf]at hF;have hl:=ij (lQ hf).2 hn.vars;have hB:=t13 old now l ho hn hl;have h00:((0:Int) != 0)=false:=rfl;have h01:((0:Int)== 0)=true:=rfl;show _=ay (AV.bool (match iG ct old now l with|.error _=>false|.ok m=>decide (m.length=vs.length)&&cS d8 m vs));cases hb:iG ct old now l with
   | error c=>
    rw[hb]at hB;show _=ay (AV.bool false);have hc:(c== 0)=false:=by
     have hc0:c≠0:=wu hb;simpa using hc0
    simp -implicitDefEqProofs only[S15,tY,ak,hF,ap,cm,aO,PU,PZ,yF,h00,am,PM,PP,hB,HQ,hc,dl,List.replicate,ax,aS]
   | ok m=>
    rw[hb]at hB;have hm:=ij (qS hb).2 ho.vars;have hq:=t47 (.fn (.func 27) [] []) d8 m vs (by have:=fI m;unfold j0 at hm;omega) (fun g=>rfl) (fun x hx y hy=>t27 x y (hm.mem x hx) (hv.mem y hy));have hd:(decide (m.length=vs.length)&&cS d8 m vs)=cS d8 m vs:=by
     by_cases h:m.length=vs.length
     ·simp[h]
     ·rw[eZ _ _ _ h];simp
    show _=ay (AV.bool (decide (m.length=vs.length)&&cS d8 m vs));rw[hd];simp -implicitDefEqProofs only[S15,tY,ak,hF,ap,cm,aO,PU,PZ,yF,h00,am,PM,PP,hB,HQ,h01,aL,hq,ax,aY]
 rw[e];exact dK _
end Go.Proofs.YtihmmkncokjbaaaGreatDoor
namespace Go.Proofs.YtihmmkncokjbaaaGreatDoor
open Go Go.Av Go.Av.Ap
set_option maxRecDepth 100000
theorem sX(a b:aR):aw T .neq 9 (.str a) (.str b)=some (.bool (a != b)):=rfl
theorem OA(t:Ty)(s:aR)(ht:t.Lim)(hs:s.length<=1000000):aj pg 24 [t.av,.str s]=ay (im (lr t s)):=by
 have hrd:=t57 s hs 4 (by omega) 0 (Qy _);rw[Qe]at hrd;have hrd':aj pg 57 [.str s,.int .i64 0,.int .i64 4]=ay (gb s (fq 4 s)):=hrd;have hc:cl aB (.str s)= .str s:=rfl;rw[<- GC,C24,kp,hc];have tlT':ai T 35 (.ip (aa t.av))=some t.av:=Da t;have e:S24 (aj pg) ao t.av (.str s)=ay (im (Bw t s)):=by
  unfold Bw;cases hr:fq 4 s with
  |none=>
   rw[hr]at hrd';have q:((-1:Int) != (s.length:Int))=true:=by rw[Rf];omega
   simp only[S24,hrd',ap,gb,aO,PU,PZ,ak,yZ,dz,lW,q,dm,List.replicate,ax,aY,am,PQ,AF,ly,lB,im];rfl
  | some x=>
   obtain⟨v,r⟩:=x;rw[hr]at hrd';obtain⟨e0,-⟩:=fU 4 s v r (kG 4 s _ hr);have hl:=vM (Bz hr);have hsz:=jR 4 s v r (kG 4 s _ hr);have hH:=t25 t v ht (by omega);show _=ay (im (if r=[]/\fc t v=true then some v else none));by_cases hz:r=[]
   ·subst hz;have q:(((s.length:Int)-((([]:aR).length:Nat):Int)) != (s.length:Int))=false:=by simp
    cases hh:fc t v with
    |true=>
     rw[hh]at hH;rw[PS ⟨rfl,rfl⟩];simp only[S24,hrd',ap,gb,aO,PU,PZ,ak,yZ,dz,lW,q,aL,tlT',qm,hH,bq,Qa,ax,aS,am,PM,PP,ly,lB,im]
    |false=>
     rw[hh]at hH;rw[if_neg (by simp[hh])];simp only[S24,hrd',ap,gb,aO,PU,PZ,ak,yZ,dz,lW,q,aL,tlT',qm,hH,bq,Qd,ax,aS,am,PQ,AF,ly,lB,im];rfl
   ·have hr0:r.length≠0:=fun h=>hz (P6 h);have q:(((s.length:Int)-(r.length:Int)) != (s.length:Int))=true:=by rw[Rf];omega
    rw[if_neg (by simp[hz])];simp only[S24,hrd',ap,gb,aO,PU,PZ,ak,yZ,dz,lW,q,dm,List.replicate,ax,aY,am,PQ,AF,ly,lB,im];rfl
 rw[e];exact bw (qY _)
def t67(l:List cE)(vs:List Val)(hl:l.length<=140737488355328)(ht:∀f∈l,f.2.Lim)(hz:∀v∈vs,v.sz<=1099511627776):aj pg 67 [bm l,vals vs]=ay (.bool (dX l vs)):=by
 rw[C67,gg,eh];unfold dX
 have e:S67 (aj pg) ao (bm l) (vals vs)=ay (.bool (decide (l.length=vs.length)&&cS (fun f v=>fc f.2 v) l vs)):=by
  by_cases h:l.length=vs.length
  ·have hq:((l.length:Int) != (vs.length:Int))=false:=by simp[h]
   have hloop:=iy (FL67_0 (aj pg)) (fun k=>[bm l,vals vs,.int .i64 (k:Int)]) l.length (fun k=>fc l[k]!.2 vs[k]!)
    (by
     have h1:¬((l.length:Int)<(l.length:Int)):=by omega
     simp only[L67_0,ax,aE,bU,db,PX h1,ak,am,PM,PP]) (fun k hk=>by
     have a1:k<vs.length:=by omega
     have h1:(k:Int)<(l.length:Int):=by omega
     have hx:=t25 l[k].2 vs[k] (ht _ (P2 hk)) (hz _ (P2 a1));have i1:=gp (l:=l) (n:=(k:Int)) (by omega) h1;have i2:=hM (l:=vs) (n:=(k:Int)) (by omega) (by omega);rw[P8,PY l k hk]at i1;rw[P8,PY vs k a1]at i2;rw[PY l k hk,PY vs k a1];generalize l[k]=f at hx i1;generalize vs[k]=v at hx i2;cases hh:fc f.2 v with
     |true=>
      rw[hh]at hx;simp only[L67_0,ax,aE,bU,db,PT h1,ak,am,PQ,i1,i2,oz,oB,qm,hx,bA,ap,bq,Qa,PM,PP,kd (k:=k) (by omega)]
     |false=>
      rw[hh]at hx;simp only[L67_0,ax,aE,bU,db,PT h1,ak,am,PQ,i1,i2,oz,oB,qm,hx,bA,ap,bq,Qd,PM,PP]) 0 (Qy _)
   have:=gx (fun(f:cE) v=>fc f.2 v) l vs h
   simp only[Rq,this]at hloop;have hloop':ao (L67_0 (aj pg) ao) [bm l,vals vs,.int .i64 0]=_:=hloop;rw[PT h,QJ];simp only[S67,bU,hP,ak,lW,hq,am,PM,PP,hloop']
  ·have hq:((l.length:Int) != (vs.length:Int))=true:=by rw[Rf];omega
   rw[PX h,QZ];simp only[S67,bU,hP,ak,lW,hq,am,PQ]
 rw[e];exact dK _
theorem t153:∀(N:Nat)(a b:Ty),SizeOf.sizeOf a<=N->a.Lim->aj pg 153 [a.av,b.av]=ay (.bool (g7 a b)):=by
 intro N
 induction N with
 |zero=>intro a b h;cases a;simp at h
 | succ N ih=>
  intro a b hN hL;have hlen:=hL.len;rw[C153,kp,kp,yg]
  have e : S153 (aj pg) ao a.av b.av=ay (.bool (a.kind== b.kind&&cS (fun x y=>x.1== y.1&&g7 x.2 y.2) a.fields b.fields)):=by
   cases hk:a.kind== b.kind with
   |false=>
    have hq:(a.kind != b.kind)=true:=by simpa using hk
    simp only[S153,tf0,tl0,ak,lW,hq,dm,ap,List.replicate,ax,aY,am,PQ,QZ]
   | true=>
    have hq:(a.kind != b.kind)=false:=by simpa using hk
    by_cases h:a.fields.length=b.fields.length
    ·have hq2:((a.fields.length:Int) != (b.fields.length:Int))=false:=by simp[h]
     have hloop:=iy (FL153_0 (aj pg)) (fun k=>[.ip (aa a.av),.ip (aa b.av),.int .i64 (k:Int)]) a.fields.length (fun k=>a.fields[k]!.1== b.fields[k]!.1&&g7 a.fields[k]!.2 b.fields[k]!.2)
      (by
       have h1:¬((a.fields.length:Int)<(a.fields.length:Int)):=by omega
       simp only[L153_0,ax,aE,tf1,tl1,bU,db,PX h1,ak,am,PM,PP]) (fun k hk=>by
       have a1:k<b.fields.length:=by omega
       have h1:(k:Int)<(a.fields.length:Int):=by omega
       have hx:=ih a.fields[k].2 b.fields[k].2 (by have:=BH (P2 hk);omega) (hL.kid (P2 hk));have i1:=gp (l:=a.fields) (n:=(k:Int)) (by omega) h1;have i2:=gp (l:=b.fields) (n:=(k:Int)) (by omega) (by omega);rw[P8,PY a.fields k hk]at i1;rw[P8,PY b.fields k a1]at i2;rw[PY a.fields k hk,PY b.fields k a1];generalize a.fields[k]=f at hx i1;generalize b.fields[k]=g at hx i2;have hn:(f.1 != g.1)= !(f.1== g.1):=rfl;cases hs:f.1== g.1 with
       |false=>
        rw[hs]at hn;simp only[L153_0,ax,aE,tf1,tl1,bU,db,PT h1,ak,am,PQ,i1,i2,ow,oA,oz,oB,hx,bA,ap,sX,hn,Qd,dm,List.replicate,aY,QZ,PM,PP]
       | true=>
        rw[hs]at hn;cases hh:g7 f.2 g.2 with
        |true=>
         rw[hh]at hx;simp only[L153_0,ax,aE,tf1,tl1,bU,db,PT h1,ak,am,PQ,i1,i2,ow,oA,oz,oB,hx,bA,ap,sX,hn,Qa,aL,bq,aS,QJ,PM,PP,kd (k:=k) (by omega)]
        |false=>
         rw[hh]at hx;simp only[L153_0,ax,aE,tf1,tl1,bU,db,PT h1,ak,am,PQ,i1,i2,ow,oA,oz,oB,hx,bA,ap,sX,hn,Qa,Qd,aL,bq,aS,QJ,PM,PP]) 0 (Qy _)
     have:=gx (fun(x y:cE)=>x.1== y.1&&g7 x.2 y.2) a.fields b.fields h
     simp only[Rq,this]at hloop;have hloop':ao (L153_0 (aj pg) ao) [.ip (aa a.av),.ip (aa b.av),.int .i64 0]=_:=hloop;simp only[S153,tf0,tl0,tf1,tl1,bU,ak,lW,hq,hq2,aL,ap,ax,aS,am,PM,PP,hloop',QJ]
    ·have hq2:((a.fields.length:Int) != (b.fields.length:Int))=true:=by rw[Rf];omega
     rw[eZ _ _ _ h];simp only[S153,tf0,tl0,tf1,tl1,bU,ak,lW,hq,hq2,aL,ap,ax,aS,am,PQ,QJ]
  rw[e];exact dK _
def t109(a b:Ty)(ha:a.Lim)(hb:b.Lim):aj pg 109 [a.av,b.av]=ay (.bool (dx a&&dx b&&g7 a b)):=by
 have h1:=t58 a ha;have h2:=t58 b hb;have h3:=t153 _ a b (P5 _) ha;rw[C109,kp,kp];have e:S109 (aj pg) ao a.av b.av=ay (.bool (dx a&&dx b&&g7 a b)):=by
  cases q1:dx a with
  |false=>
   rw[q1]at h1;simp only[S109,Da,ak,h1,ap,dl,List.replicate,ax,aS,QZ]
  | true=>
   rw[q1]at h1;cases q2:dx b with
   |false=>
    rw[q2]at h2;simp only[S109,Da,ak,h1,h2,ap,dl,aL,List.replicate,ax,aY,aS,QZ,QJ]
   |true=>
    rw[q2]at h2;simp only[S109,Da,ak,h1,h2,h3,ap,aL,ax,aY,QJ]
 rw[e];exact dK _
theorem t69(old now:Ap.Mod)(ho:old.Lim)(hn:now.Lim)(hm:now.moves=true):aj pg 69 [old.av,now.av]=ay (.bool (fZ ct old now)):=by
 have hcm:aW 3 (AV.agg [bm now.old,bE now.forward,bE now.back])=ay (AV.agg [bm now.old,bE now.forward,bE now.back]):=by
  rw[bu (rfl:cz 3 (AV.agg [bm now.old,bE now.forward,bE now.back])=true)];rfl
 have m5:ai T 27 (.ip ((aa now.av).drop 6))=some (AV.agg [bm now.old,bE now.forward,bE now.back]):=rfl;have x0:ab T 27 (.ip (aa (AV.agg [bm now.old,bE now.forward,bE now.back]))) 0=some (.ip [bm now.old,bE now.forward,bE now.back]):=rfl;have x1:ab T 27 (.ip (aa (AV.agg [bm now.old,bE now.forward,bE now.back]))) 1=some (.ip [bE now.forward,bE now.back]):=rfl;have x2:ab T 27 (.ip (aa (AV.agg [bm now.old,bE now.forward,bE now.back]))) 2=some (.ip [bE now.back]):=rfl;have y0:ai T 23 (.ip [bm now.old,bE now.forward,bE now.back])=some (bm now.old):=rfl;have y1:ai T 24 (.ip [bE now.forward,bE now.back])=some (bE now.forward):=rfl;have y2:ai T 24 (.ip [bE now.back])=some (bE now.back):=rfl;have nn:∀a b:Nat,((a:Int) != (b:Int))= !decide (a=b):=fun a b=>by rw[QG];simp
 rw[C69,eQ,eQ];unfold fZ
 have e:S69 (aj pg) ao old.av now.av=ay (.bool (decide (now.forward.length=now.vars.length)&&decide (now.back.length=old.vars.length)&&(decide (now.old.length=old.vars.length)&&cS ct now.old old.vars))):=by
  by_cases h:now.old.length=old.vars.length
  ·have hloop:=iy (FL69_0 (aj pg)) (fun k=>[.ip (aa old.av),.ip (aa (AV.agg [bm now.old,bE now.forward,bE now.back])),.int .i64 (k:Int)]) now.old.length (fun k=>ct now.old[k]! old.vars[k]!)
    (by
     have h1:¬((now.old.length:Int)<(now.old.length:Int)):=by omega
     simp only[L69_0,ax,aE,x0,y0,bU,db,PX h1,ak,am,PM,PP]) (fun k hk=>by
     have a1:k<old.vars.length:=by omega
     have h1:(k:Int)<(now.old.length:Int):=by omega
     have hl1:=ho.vars;have hx:=t109 now.old[k].2 old.vars[k].2 (hn.oty _ (P2 hk)) (ho.vty _ (P2 a1));have i1:=gp (l:=now.old) (n:=(k:Int)) (by omega) h1;have i2:=gp (l:=old.vars) (n:=(k:Int)) (by omega) (by omega);rw[P8,PY now.old k hk]at i1;rw[P8,PY old.vars k a1]at i2;rw[PY now.old k hk,PY old.vars k a1];generalize now.old[k]=f at hx i1;generalize old.vars[k]=g at hx i2;unfold ct;have hnn:(f.1 != g.1)= !(f.1== g.1):=rfl;cases hs:f.1== g.1 with
     |false=>
      rw[hs]at hnn;simp only[L69_0,ax,aE,x0,y0,bU,db,PT h1,ak,am,PQ,i1,i2,fm2,qv,ow,oA,sX,hnn,Qd,dm,ap,List.replicate,aY,QZ,PM,PP]
     | true=>
      rw[hs]at hnn;cases hh:(dx f.2&&dx g.2&&g7 f.2 g.2)with
      |true=>
       rw[hh]at hx;simp only[L69_0,ax,aE,x0,y0,bU,db,PT h1,ak,am,PQ,i1,i2,fm2,qv,ow,oA,oz,oB,sX,hnn,Qa,aL,hx,bA,ap,bq,aS,QJ,PM,PP,kd (k:=k) (by omega)]
      |false=>
       rw[hh]at hx;simp only[L69_0,ax,aE,x0,y0,bU,db,PT h1,ak,am,PQ,i1,i2,fm2,qv,ow,oA,oz,oB,sX,hnn,Qa,Qd,aL,hx,bA,ap,bq,aS,QJ,PM,PP]) 0 (Qy _)
   have:=gx ct now.old old.vars h
   simp only[Rq,this]at hloop;have hloop':ao (L69_0 (aj pg) ao) [.ip (aa old.av),.ip (aa (AV.agg [bm now.old,bE now.forward,bE now.back])),.int .i64 0]=_:=hloop;rw[PT h];by_cases hf:now.forward.length=now.vars.length
   ·by_cases hb:now.back.length=old.vars.length
    ·rw[PT hf,PT hb];simp only[S69,fm6,m5,ak,hcm,ap,fm5,yE,hm,bq,Qa,x0,x1,x2,y0,y1,y2,fm2,qv,bU,eP,lW,nn,PT h,PT hf,PT hb,aL,ax,aS,am,PM,PP,hloop',QJ]
    ·rw[PT hf,PX hb];simp only[S69,fm6,m5,ak,hcm,ap,fm5,yE,hm,bq,Qa,Qd,x0,x1,x2,y0,y1,y2,fm2,qv,bU,eP,lW,nn,PT h,PT hf,PX hb,aL,ax,aS,am,PQ,RI,QZ]
   ·rw[PX hf];simp only[S69,fm6,m5,ak,hcm,ap,fm5,yE,hm,bq,Qa,Qd,x0,x1,y0,y1,fm2,qv,bU,eP,lW,nn,PT h,PX hf,aL,dm,List.replicate,ax,aS,aY,am,PQ,QZ]
  ·rw[PX h,QZ,RI];simp only[S69,fm6,m5,ak,hcm,ap,fm5,yE,hm,bq,Qa,Qd,x0,y0,fm2,qv,bU,lW,nn,PX h,aL,dm,List.replicate,ax,aS,aY,am,PQ]
 rw[e];exact dK _
def t110(l:List cE)(hl:l.length<=1000000):aj pg 110 [bm l]=ay (strs (l.map (·.1))):=by
 have hloop:∀(B A:List cE),A++B=l->ao (L110_0 (aj pg) ao) [bm l,strs (A.map (·.1)),.int .i64 A.length]=ay (strs (l.map (·.1))):=by
  intro B
  induction B with
  |nil=>
   intro A e;rw[Qq]at e;subst e;have h1:¬((A.length:Int)<(A.length:Int)):=by omega
   rw[FL110_0];simp only[L110_0,ax,aE,bU,db,PX h1,ak,am,PM,PP]
  |cons f B ih=>
   intro A e;have hlen:A.length+(B.length+1)=l.length:=by rw[<- e];simp
   have h1:(A.length:Int)<(l.length:Int):=by omega
   have hix:=gp (l:=l) (n:=(A.length:Int)) (by omega) h1;rw[P8,PY l A.length (by omega),show l[A.length]'(by omega)=f by simp[<- e]]at hix;have ih:=ih (A++[f]) (by rw[<- e];simp);rw[Rw,P0]at ih;have hap:cf T 22 (strs (A.map (·.1))) (strs [f.1])=some (strs (A.map (·.1)++[f.1])):=oC (by simp;omega);rw[FL110_0];simp only[L110_0,ax,aE,bU,db,PT h1,ak,am,PQ,hix,ow,oA,LM,hap,kd (k:=A.length) (by omega)];exact ih
 have h:=hloop l [] rfl;have h':ao (L110_0 (aj pg) ao) [bm l,.sl [],.int .i64 0]=ay (strs (l.map (·.1))):=h;rw[C110,gg];have e:S110 (aj pg) ao (bm l)=ay (strs (l.map (·.1))):=by
  simp only[S110,h']
 rw[e];exact bw fun g=>by simp
theorem Gj(fr to:List cE)(vs:List Val)(l:List Exp)(hl:l.length=to.length)(hto:to.length<=1000000)(hfr:fr.length<=1000000)(ht:∀f∈to,f.2.Lim)(hz:br vs<=4611686018427387904)(he:∀e∈l,bh e):
  ∀(B A:List cE)(BE AE:List Exp)(acc:List Val),A++B=to->AE++BE=l->AE.length=A.length->acc.length=A.length->ao (L70_0 (aj pg) ao) [bm fr,vals vs,bm to,bE l,vals acc,.int .i64 A.length]=ay (cm (dH (fr.map (·.1)) vs B BE acc))
 |[],A,BE,AE,acc,e,e2,hA,ha=>by
  rw[Qq]at e;subst e;have h1:¬((A.length:Int)<(A.length:Int)):=by omega
  have hB:BE=[]:=RU.1 (by have:=PR List.length e2;simp at this;omega);subst hB;rw[FL70_0];simp only[L70_0,ax,aE,bU,db,PX h1,ak,am,PM,PP,dH,cm]
 |f:: B,A,[],AE,acc,e,e2,hA,ha=>by
  have:=PR List.length e2
  have h2:=PR List.length e;simp at this h2;omega
 | f:: B,A,x:: BE,AE,acc,e,e2,hA,ha=>by
  have hlen:A.length+(B.length+1)=to.length:=by rw[<- e];simp
  have h1:(A.length:Int)<(to.length:Int):=by omega
  have hix:=gp (l:=to) (n:=(A.length:Int)) (by omega) h1;rw[P8,PY to A.length (by omega),show to[A.length]'(by omega)=f by simp[<- e]]at hix;have hex:=kL (l:=l) (n:=(A.length:Int)) (by omega) (by omega);rw[P8,PY l A.length (by omega),show l[A.length]'(by omega)=x by simp[<- e2,<- hA]]at hex;have hns:=t110 fr hfr;have hcall:=t108 x (fr.map (·.1)) vs (he x (by rw[<- e2];simp)) (by rw[Rp];omega) hz;have hw:=kd (k:=A.length) (by omega);rw[FL70_0,dH];cases hr:lz x (fr.map (·.1)) vs with
  | er c s=>
   rw[hr]at hcall;have hc0:(c != 0)=true:=by
    have:=lN hr
    simpa using this
   simp -implicitDefEqProofs only[L70_0,ax,aE,bU,db,PT h1,ak,am,PQ,hex,LS,hns,bA,ap,hcall,fp,aO,PU,PZ,bu (cL default),yF,hc0,cm]
  | ok v s=>
   rw[hr]at hcall;have hv:=tB hr;have hsz:=mc hv;have hH:=t25 f.2 v (ht f (by rw[<- e];simp)) (by omega);have h00:((0:Int) != 0)=false:=rfl;have hvv:∀v:Val,AV.agg (aa v.av)=v.av:=fun v=>by simp
   cases hx:fc f.2 v with
   |false=>
    rw[hx]at hH;simp -implicitDefEqProofs only[L70_0,ax,aE,bU,db,PT h1,ak,am,PQ,hex,LS,hns,bA,ap,hcall,fp,aO,PU,PZ,bu (cL v),hvv,yF,h00,PM,PP,hix,oz,oB,qm,hH,bq,Qd,hx,cm]
   |true=>
    rw[hx]at hH;have ih:=Gj fr to vs l hl hto hfr ht hz he B (A++[f]) BE (AE++[x]) (acc++[v]) (by rw[<- e];simp) (by rw[<- e2];simp) (by simp[hA]) (by simp[ha]);have eA:(A++[f]).length=A.length+1:=by simp
    rw[eA]at ih;have hap:cf T 30 (vals acc) (vals [v])=some (vals (acc++[v])):=kj (by simp;omega);simp -implicitDefEqProofs only[L70_0,ax,aE,bU,db,PT h1,ak,am,PQ,hex,LS,hns,bA,ap,hcall,fp,aO,PU,PZ,bu (cL v),hvv,yF,h00,PM,PP,hix,oz,oB,qm,hH,bq,Qa,LN,hap,hw,ih,PS hx]
def t70(fr to:List cE)(vs:List Val)(l:List Exp)(hl:l.length=to.length)(hto:to.length<=1000000)(hfr:fr.length<=1000000)(ht:∀f∈to,f.2.Lim)(hz:br vs<=4611686018427387904)(he:∀e∈l,bh e):aj pg 70 [bm fr,vals vs,bm to,bE l]=ay (cm (dH (fr.map (·.1)) vs to l [])):=by
 have h:=Gj fr to vs l hl hto hfr ht hz he to [] l [] [] rfl rfl rfl rfl;have h':ao (L70_0 (aj pg) ao) [bm fr,vals vs,bm to,bE l,.sl [],.int .i64 0]=ay (cm (dH (fr.map (·.1)) vs to l [])):=h;rw[C70,gg,gg,eh,AM];have e:S70 (aj pg) ao (bm fr) (vals vs) (bm to) (bE l)=ay (cm (dH (fr.map (·.1)) vs to l [])):=by
  simp only[S70,h']
 rw[e];exact bw fun g=>ka g _
theorem HY(k0:List AV->M AV)(fr to:List cE)(vs acc:List Val)(j:Nat)(hj:j<to.length)(hfr:fr.length<=1000000)(hto:to.length<=1000000)(hfv:fr.length=vs.length)(ht:∀f∈to,f.2.Lim)(hz:∀v∈vs,v.sz<=1099511627776)(hacc:acc.length<=1000000):∀(B A:List cE),A++B=fr->
  ao (L68_0 (aj pg) ao k0) [bm fr,vals vs,bm to,vals acc,.int .i64 (j:Int),.int .i64 A.length]=if bj (fun x:cE=>x.1== to[j].1) B A.length<0\/fc to[j].2 vs[(bj (fun x:cE=>x.1== to[j].1) B A.length).toNat]! = false then ay (.tup [.sl [],.int .i64 7])else k0 [bm fr,vals vs,bm to,vals (acc++[vs[(bj (fun x:cE=>x.1== to[j].1) B A.length).toNat]!]),.int .i64 (j+1:Nat)]:=by
 have hjx:=gp (l:=to) (n:=(j:Int)) (by omega) (by omega);rw[P8,PY to j hj]at hjx;have hjt:=ht _ (P2 hj);generalize to[j]=g at hjx hjt;intro B
 induction B with
 |nil=>
  intro A e;rw[Qq]at e;subst e;have h1:¬((A.length:Int)<(A.length:Int)):=by omega
  have h2:((A.length:Int)<=(A.length:Int)):=by omega
  have hi:bj (fun x:cE=>x.1== g.1) [] (A.length:Int)= -1:=rfl;rw[FL68_0,hi,PS (Or.inl (by omega))];simp only[L68_0,ax,aE,bU,db,PX h1,ak,dl,ap,List.replicate,aS,am,PM,PP,nO,PT h2,dm,aY,PQ]
 | cons f B ih=>
  intro A e;have hlen:A.length+(B.length+1)=fr.length:=by rw[<- e];simp
  have h1:(A.length:Int)<(fr.length:Int):=by omega
  have hix:=gp (l:=fr) (n:=(A.length:Int)) (by omega) h1;rw[P8,PY fr A.length (by omega),show fr[A.length]'(by omega)=f by simp[<- e]]at hix;have hnn:(f.1 != g.1)= !(f.1== g.1):=rfl;rw[FL68_0];cases hs:f.1== g.1 with
  | false=>
   rw[hs]at hnn;have ih:=ih (A++[f]) (by rw[<- e];simp);have eA:(A++[f]).length=A.length+1:=by simp
   rw[eA]at ih;have hi:bj (fun x:cE=>x.1== g.1) (f:: B) (A.length:Int)=bj (fun x:cE=>x.1== g.1) B ((A.length+1:Nat):Int):=by
    simp only[bj,hs];rfl
   rw[hi,<- ih];simp only[L68_0,ax,aE,bU,db,PT h1,ak,aL,hix,hjx,ow,oA,sX,hnn,Qd,ap,aY,am,PQ,kd (k:=A.length) (by omega)]
  | true=>
   rw[hs]at hnn;have hi:bj (fun x:cE=>x.1== g.1) (f:: B) (A.length:Int)=(A.length:Int):=by simp only[bj,hs];rfl
   have hv:=hM (l:=vs) (n:=(A.length:Int)) (by omega) (by omega);rw[P8]at hv;have h2:¬((fr.length:Int)<=(A.length:Int)):=by omega
   have hmem:vs[A.length]! ∈vs:=by rw[PY vs _ (by omega)];exact P2 (by omega)
   have hH:=t25 g.2 vs[A.length]! hjt (hz _ hmem);rw[hi,P8];generalize vs[A.length]! = v at hv hH;have hap:cf T 30 (vals acc) (vals [v])=some (vals (acc++[v])):=kj (by simp;omega);cases hh:fc g.2 v with
   |true=>
    rw[hh]at hH;rw[if_neg (by simp)];simp only[L68_0,ax,aE,bU,db,PT h1,ak,aL,hix,hjx,ow,oA,sX,hnn,Qa,ap,aY,am,PM,PP,nO,PX h2,oz,oB,hv,qm,hH,bA,bq,aS,LN,hap,kd (k:=j) (by omega)]
   |false=>
    rw[hh]at hH;rw[PS (Or.inr rfl)];simp only[L68_0,ax,aE,bU,db,PT h1,ak,aL,hix,hjx,ow,oA,sX,hnn,Qa,Qd,ap,aY,am,PM,PP,nO,PX h2,oz,oB,hv,qm,hH,bA,bq,aS,PQ]
theorem Gi(fr to:List cE)(vs:List Val)(hfr:fr.length<=1000000)(hfv:fr.length=vs.length)(hto:to.length<=1000000)(ht:∀f∈to,f.2.Lim)(hz:∀v∈vs,v.sz<=1099511627776):
  ∀(B A:List cE)(acc:List Val),A++B=to->acc.length=A.length->ao (L68_1 (aj pg) ao) [bm fr,vals vs,bm to,vals acc,.int .i64 A.length]=ay (nf (dG fr vs B acc))
 |[],A,acc,e,ha=>by
  rw[Qq]at e;subst e;have h1:¬((A.length:Int)<(A.length:Int)):=by omega
  rw[FL68_1];simp only[L68_1,ax,aE,bU,db,PX h1,ak,am,PM,PP,dG,nf]
 |f:: B,A,acc,e,ha=>by
  have hlen:A.length+(B.length+1)=to.length:=by rw[<- e];simp
  have h1:(A.length:Int)<(to.length:Int):=by omega
  have hin:=HY (ao (L68_1 (aj pg) ao)) fr to vs acc A.length (by omega) hfr hto hfv ht hz (by omega) fr [] rfl;have hf:to[A.length]'(by omega)=f:=by simp[<- e]
  rw[hf]at hin;have hin':ao (L68_0 (aj pg) ao (ao (L68_1 (aj pg) ao))) [bm fr,vals vs,bm to,vals acc,.int .i64 A.length,.int .i64 0]=if dM fr f.1<0\/fc f.2 vs[(dM fr f.1).toNat]! = false then ay (.tup [.sl [],.int .i64 7])else ao (L68_1 (aj pg) ao) [bm fr,vals vs,bm to,vals (acc++[vs[(dM fr f.1).toNat]!]),.int .i64 (A.length+1:Nat)]:=hin;have ih:=fun v=>Gi fr to vs hfr hfv hto ht hz B (A++[f]) (acc++[v]) (by rw[<- e];simp) (by simp[ha]);have eA:(A++[f]).length=A.length+1:=by simp
  rw[eA]at ih;rw[FL68_1,dG];simp only[L68_1,ax,aE,bU,db,PT h1,ak,am,PQ,hin'];split
  ·rfl
  ·exact ih _
def t68(fr to:List cE)(vs:List Val)(hfr:fr.length<=1000000)(hfv:fr.length=vs.length)(hto:to.length<=1000000)(ht:∀f∈to,f.2.Lim)(hz:∀v∈vs,v.sz<=1099511627776):aj pg 68 [bm fr,vals vs,bm to]=ay (cm (jL (dG fr vs to []))):=by
 have h:=Gi fr to vs hfr hfv hto ht hz to [] [] rfl rfl;have h':ao (L68_1 (aj pg) ao) [bm fr,vals vs,bm to,.sl [],.int .i64 0]=ay (cm (jL (dG fr vs to []))):=by rw[<- xw];exact h
 rw[C68,gg,gg,eh];have e:S68 (aj pg) ao (bm fr) (vals vs) (bm to)=ay (cm (jL (dG fr vs to []))):=by
  simp only[S68,h']
 rw[e];exact bw fun g=>ka g _
def t71(a b:List Val)(ha:j0 a)(hb:j0 b):aj pg 71 [vals a,vals b]=ay (.bool (cS d8 a b)):=by
 have hla:=fI a;unfold j0 at ha hb;rw[C71,eh,eh]
 have e:S71 (aj pg) ao (vals a) (vals b)=ay (.bool (cS d8 a b)):=by
  by_cases h:a.length=b.length
  ·have hq:((a.length:Int) != (b.length:Int))=false:=by simp[h]
   have hloop:=iy (FL71_0 (aj pg)) (fun k=>[vals a,vals b,.int .i64 (k:Int)]) a.length (fun k=>d8 a[k]! b[k]!)
    (by
     have h1:¬((a.length:Int)<(a.length:Int)):=by omega
     simp only[L71_0,ax,aE,hP,db,PX h1,ak,am,PM,PP]) (fun k hk=>by
     have a1:k<b.length:=by omega
     have h1:(k:Int)<(a.length:Int):=by omega
     have hx:=t28 a[k] b[k] (by have:=eJ (P2 hk);omega) (by have:=eJ (P2 a1);omega);have i1:=hM (l:=a) (n:=(k:Int)) (by omega) h1;have i2:=hM (l:=b) (n:=(k:Int)) (by omega) (by omega);rw[P8,PY a k hk]at i1;rw[P8,PY b k a1]at i2;rw[PY a k hk,PY b k a1];generalize a[k]=v at hx i1;generalize b[k]=w at hx i2;rw[m9,m9]at hx;unfold d8;cases hh:(bc 4 v&&bc 4 w&&gf v w)with
     |true=>
      rw[hh]at hx;simp only[L71_0,ax,aE,hP,db,PT h1,ak,am,PQ,i1,i2,qm,hx,bA,ap,bq,Qa,PM,PP,kd (k:=k) (by omega)]
     |false=>
      rw[hh]at hx;simp only[L71_0,ax,aE,hP,db,PT h1,ak,am,PQ,i1,i2,qm,hx,bA,ap,bq,Qd,PM,PP]) 0 (Qy _)
   have:=gx d8 a b h
   simp only[Rq,this]at hloop;have hloop':ao (L71_0 (aj pg) ao) [vals a,vals b,.int .i64 0]=_:=hloop;simp only[S71,hP,ak,lW,hq,am,PM,PP,hloop']
  ·have hq:((a.length:Int) != (b.length:Int))=true:=by rw[Rf];omega
   rw[eZ _ _ _ h];simp only[S71,hP,ak,lW,hq,am,PQ]
 rw[e];exact dK _
def t32(old now:Ap.Mod)(vs:List Val)(ho:SMod old)(hn:SMod now)(hv:j0 vs):aj pg 32 [old.av,now.av,vals vs]=ay (cm (dV ct old now vs)):=by
 have hm:=t67 old.vars vs ho.lim.vars ho.lim.vty hv.mem;have hz:br vs<=4611686018427387904:=QQ hv (by decide);rw[C32,eQ,eQ,eh];have e:S32 (aj pg) ao old.av now.av (vals vs)=ay (cm (dV ct old now vs)):=by
  unfold dV;cases hmm:dX old.vars vs with
  |false=>
   rw[hmm]at hm;simp -implicitDefEqProofs only[S32,fm2,qv,ak,hm,ap,kf,Qd,am,PQ,cm]
  | true=>
   rw[hmm]at hm;have hlen:old.vars.length=vs.length:=by simp only[dX,PO,PW]at hmm;exact hmm.1
   rw[if_neg (by simp)];cases hmo:now.moves with
   |false=>
    have hk:=t68 old.vars now.vars vs ho.vars hlen hn.vars hn.lim.vty hv.mem;rw[PS rfl];obtain⟨a,b,hab⟩:=mb (jL (dG old.vars vs now.vars []));rw[hab]at hk |-;simp -implicitDefEqProofs only[S32,fm2,qv,ak,hm,ap,kf,Qa,Qd,am,PM,PP,PQ,fm5,yE,hmo,hk,aO,PU,PZ]
   | true=>
    have hl:=t69 old now ho.lim hn.lim hmo;rw[if_neg (by simp)];cases hll:fZ ct old now with
    |false=>
     rw[hll]at hl;rw[PS rfl];simp -implicitDefEqProofs only[S32,fm2,qv,ak,hm,ap,kf,Qa,Qd,am,PM,PP,PQ,fm5,yE,hmo,tY,hl,cm]
    |true=>
     rw[hll]at hl;rw[if_neg (by simp)];have hf:now.forward.length=now.vars.length:=by simp only[fZ,PO,PW]at hll;exact hll.1.1
     have hk:=t70 old.vars now.vars vs now.forward hf hn.vars ho.vars hn.lim.vty hz hn.fw;obtain⟨a,b,hab⟩:=mb (dH (old.vars.map (·.1)) vs now.vars now.forward []);rw[hab]at hk |-;simp -implicitDefEqProofs only[S32,fm2,qv,ak,hm,ap,kf,Qa,am,PM,PP,fm5,yE,hmo,tY,hl,fm6,fg1,On,hk,aO,PU,PZ]
 rw[e];exact bw fun g=>ka g _
def t33(old now:Ap.Mod)(vs:List Val)(ho:SMod old)(hn:SMod now)(hv:j0 vs):aj pg 33 [old.av,now.av,vals vs]=ay (cm (iG ct old now vs)):=by
 have hm:=t67 now.vars vs hn.lim.vars hn.lim.vty hv.mem;have hz:br vs<=4611686018427387904:=QQ hv (by decide);rw[C33,eQ,eQ,eh];have e:S33 (aj pg) ao old.av now.av (vals vs)=ay (cm (iG ct old now vs)):=by
  unfold iG;cases hmm:dX now.vars vs with
  |false=>
   rw[hmm]at hm;simp -implicitDefEqProofs only[S33,fm2,qv,ak,hm,ap,kf,Qd,am,PQ,cm]
  | true=>
   rw[hmm]at hm;have hlen:now.vars.length=vs.length:=by simp only[dX,PO,PW]at hmm;exact hmm.1
   rw[if_neg (by simp)];cases hmo:now.moves with
   |false=>
    have hk:=t68 now.vars old.vars vs hn.vars hlen ho.vars ho.lim.vty hv.mem;rw[PS rfl];obtain⟨a,b,hab⟩:=mb (jL (dG now.vars vs old.vars []));rw[hab]at hk |-;simp -implicitDefEqProofs only[S33,fm2,qv,ak,hm,ap,kf,Qa,Qd,am,PM,PP,PQ,fm5,yE,hmo,hk,aO,PU,PZ]
   | true=>
    have hl:=t69 old now ho.lim hn.lim hmo;rw[if_neg (by simp)];cases hll:fZ ct old now with
    |false=>
     rw[hll]at hl;rw[PS rfl];simp -implicitDefEqProofs only[S33,fm2,qv,ak,hm,ap,kf,Qa,Qd,am,PM,PP,PQ,fm5,yE,hmo,tY,hl,cm]
    |true=>
     rw[hll]at hl;rw[if_neg (by simp)];have hf:now.back.length=old.vars.length:=by simp only[fZ,PO,PW]at hll;exact hll.1.2
     have hk:=t70 now.vars old.vars vs now.back hf ho.vars hn.vars ho.lim.vty hz hn.bk;obtain⟨a,b,hab⟩:=mb (dH (now.vars.map (·.1)) vs old.vars now.back []);rw[hab]at hk |-;simp -implicitDefEqProofs only[S33,fm2,qv,ak,hm,ap,kf,Qa,am,PM,PP,fm5,yE,hmo,tY,hl,fm6,fg2,Oo,hk,aO,PU,PZ]
 rw[e];exact bw fun g=>ka g _
theorem t34(old now:Ap.Mod)(vs:List Val)(ho:SMod old)(hn:SMod now)(hv:j0 vs):aj pg 34 [old.av,now.av,vals vs]=ay (.bool (nd ct d8 old now vs)):=by
 have hF:=t32 old now vs ho hn hv;rw[C34,eQ,eQ,eh];have e:S34 (aj pg) ao old.av now.av (vals vs)=ay (.bool (nd ct d8 old now vs)):=by
  unfold nd;cases hf:dV ct old now vs with
  | error c=>
   rw[hf]at hF;have hc:(c != 0)=true:=by
    have hc0:c≠0:=pI hf;simpa using hc0
   simp -implicitDefEqProofs only[S34,tY,ak,hF,ap,cm,aO,PU,PZ,yF,hc,am,PQ]
  | ok l=>
   rw[hf]at hF;have hl:=ij (lQ hf).2 hn.vars;have hB:=t33 old now l ho hn hl;have h00:((0:Int) != 0)=false:=rfl;have h01:((0:Int)== 0)=true:=rfl;show _=ay (AV.bool (match iG ct old now l with|.error _=>false|.ok m=>decide (m.length=vs.length)&&cS d8 m vs));cases hb:iG ct old now l with
   | error c=>
    rw[hb]at hB;show _=ay (AV.bool false);have hc:(c== 0)=false:=by
     have hc0:c≠0:=wu hb;simpa using hc0
    simp -implicitDefEqProofs only[S34,tY,ak,hF,ap,cm,aO,PU,PZ,yF,h00,am,PM,PP,hB,HQ,hc,dl,List.replicate,ax,aS]
   | ok m=>
    rw[hb]at hB;have hm:=ij (qS hb).2 ho.vars;have hq:=t71 m vs hm hv;have hd:(decide (m.length=vs.length)&&cS d8 m vs)=cS d8 m vs:=by
     by_cases h:m.length=vs.length
     ·simp[h]
     ·rw[eZ _ _ _ h];simp
    show _=ay (AV.bool (decide (m.length=vs.length)&&cS d8 m vs));rw[hd];simp -implicitDefEqProofs only[S34,tY,ak,hF,ap,cm,aO,PU,PZ,yF,h00,am,PM,PP,hB,HQ,h01,aL,hq,ax,aY]
 rw[e];exact dK _
def lR(m:Ap.Mod):Except Int (List Val):=match fb [m]with
 |.error c=>.error c
 |.ok (x:: _)=>.ok x.values
 |.ok []=>.ok []
theorem t31(m:Ap.Mod)(hv:m.vars.length<=1099511627776)(hi:∀e∈m.init,bh e)(hl:m.init.length<=274877906944)(hx:∀r,fb [m]= .ok r->∃y,r=[y])(hc:∀c,fb [m]= .error c->c≠0):aj pg 31 [m.av]=ay (cm (lR m)):=by
 have hF:=t66 [m] (by simp) (fun x hx=>by rw[Qt.1 hx];exact⟨hv,hl,hi⟩);have bs:aG T 92 1 [(0,m.av)]=some (dI [m]):=rfl;rw[C31,eQ];have e:S31 (aj pg) ao m.av=ay (cm (lR m)):=by
  unfold lR;cases h:fb [m]with
  |error c=>
   rw[h]at hF;have hc0:(c != 0)=true:=by simpa using hc c h
   simp -implicitDefEqProofs only[S31,tY,ak,bs,hF,ap,iz,aO,PU,PZ,yF,hc0,am,PQ,cm]
  |ok r=>
   obtain⟨y,rfl⟩:=hx r h;rw[h]at hF;have h00:((0:Int) != 0)=false:=rfl;have hix:au T 89 (dR [y]) (.int .i64 0)=some (.ip (aa (Ap.Vars.av y))):=rfl;have hfa:ab T 94 (.ip (aa (Ap.Vars.av y))) 1=some (.ip [vals y.values]):=rfl;have hld:ai T 30 (.ip [vals y.values])=some (vals y.values):=rfl;simp -implicitDefEqProofs only[S31,tY,ak,bs,hF,ap,iz,aO,PU,PZ,yF,h00,am,PM,PP,hix,hfa,hld,cm]
 rw[e];exact bw fun g=>ka g _
end Go.Proofs.YtihmmkncokjbaaaGreatDoor
namespace Go.Proofs.YtihmmkncokjbaaaGreatDoor
open Go Go.Av Go.Av.Ap
set_option maxRecDepth 100000
def KA{e x:Exp}(h:x∈e.args):SizeOf.sizeOf x<SizeOf.sizeOf e:=KW h
theorem re:(l:List Exp)->(∀x∈l,bh x)->nJ l
 |[],_=>trivial
 |x:: l,h=>⟨h x QS,re l fun y hy=>h y (QN _ hy)⟩
def Cc{e:Exp}(h1:e.names.length<=8796093022208)(h2:e.args.length<=274877906944)(h3:∀x∈e.args,bh x):bh e:=by
 obtain⟨o,n,s,m,ns,es⟩:=e;exact⟨h1,h2,re es h3⟩
def Az(e:Exp):Prop:=∀most depth:Int,0<=most->most<=1099511627->depth<=1099511627776->pi (fun n=>bh e/\(Iz e:Int)<=n) most (aj pg 80 [e.av,.int .i64 most,.int .i64 depth])
def C6(l:List Exp)(i:Nat)(h:i<l.length):yp (l.drop i)=Iz l[i]+yp (l.drop (i+1)):=by
 rw[P9 h];rfl
def Lj(e:Exp)(hL:e.Lim)(ih:∀x∈e.args,Az x)(most depth:Int)(h0:0<=most)(h1:most<=1099511627)(h2:depth<=1099511627776)(h3:1<=depth):
  ∀(r:Nat)(n i:Int),e.args.length-i.toNat=r->0<=i->i<=e.args.length->1<=n->n<=most+1->i+1<=n->pi (fun k=>e.args.length<=most/\(∀x∈e.args.drop i.toNat,bh x)/\(yp (e.args.drop i.toNat):Int)<=k-n) most (ao (L80_0 (aj pg) ao) [.int .i64 most,.int .i64 depth,.ip (aa e.av),.int .i64 n,.int .i64 i]):=by
 intro r
 induction r with
 |zero=>
  intro n i hr hi hb hn hm hin;rw[FL80_0];simp only[L80_0];have h1:¬(i<(e.args.length:Int)):=by omega
  simp[h1];exact⟨n,rfl,hn,hm,fun h=>⟨by omega,(fun x hx=>by rw[Qg (by omega)]at hx;cases hx),by rw[Qg (by omega)];simp[yp]⟩⟩
 | succ r IH=>
  intro n i hr hi hb hn hm hin;have hlen:=hL.len;have h5:i<(e.args.length:Int):=by omega
  have hlt:i.toNat<e.args.length:=by omega
  rw[FL80_0];simp only[L80_0];by_cases hs:n<=most
  ·obtain⟨k,hk,hk1,hk2,hk3⟩:=ih e.args[i.toNat] (P2 hlt) (most-n) (depth-1) (by omega) (by omega) (by omega);have hd:=C6 e.args i.toNat hlt;obtain⟨n',q1,q2,q3,q4⟩:=IH (n+k) (i+1) (by omega) (by omega) (by omega) (by omega) (by omega) (by omega);have h4:pi (fun k=>e.args.length<=most/\(∀x∈e.args.drop i.toNat,bh x)/\(yp (e.args.drop i.toNat):Int)<=k-n) most (ao (L80_0 (aj pg) ao) [.int .i64 most,.int .i64 depth,.ip (aa e.av),.int .i64 (n+k),.int .i64 (i+1)]):=by
    by_cases hk4:k<=most-n
    ·refine⟨n',q1,q2,q3,fun h=>⟨(q4 h).1,fun x hx=>?_,?_⟩⟩
     case refine_2=>
      have z1:=(q4 h).2.2;have z2:=(hk3 hk4).2;rw[show (i+1).toNat=i.toNat+1 by omega]at z1;omega
     rw[P9 hlt]at hx;rcases Qm.1 hx with rfl|hx
     ·exact (hk3 hk4).1
     ·exact (q4 h).2.1 x (by rw[show (i+1).toNat=i.toNat+1 by omega];exact hx)
    ·have hstop:ao (L80_0 (aj pg) ao) [.int .i64 most,.int .i64 depth,.ip (aa e.av),.int .i64 (n+k),.int .i64 (i+1)]=ay (.int .i64 (n+k)):=by
      rw[FL80_0];simp only[L80_0];have h6:¬(n+k<=most):=by omega
      simp[h6]
     exact⟨n+k,hstop,by omega,by omega,fun h=>by omega⟩
   simp (disch:=omega) [h5,hs,kL,PY e.args i.toNat hlt,bd,hk];simpa using h4
  ·simp[h5,hs];exact⟨n,rfl,hn,hm,fun h=>absurd h hs⟩
def t80:∀(N:Nat)(e:Exp),SizeOf.sizeOf e<=N->e.Lim->Az e:=by
 intro N
 induction N with
 |zero=>intro e he;cases e;simp at he
 | succ N ih=>
  intro e he hL most depth h0 h1 h2;rw[C80];have h4:1<=depth->_:=fun h3=>Lj e hL (fun x hx=>ih x (by have:=KA hx;omega) (hL.kid hx)) most depth h0 h1 h2 h3 e.args.length 1 0 rfl (by omega) (by omega) (by omega) (by omega) (by omega);simp[S80];split
  ·rw[bd (by omega) (by omega),dW];exact⟨_,rfl,by omega,by omega,fun h=>by omega⟩
  ·rename_i hq;obtain⟨n,hn,b1,b2,b3⟩:=h4 (by omega);simp at hn;rw[hn,dW];refine⟨n,rfl,b1,b2,fun h=>⟨Cc hL.names ?_ fun x hx=>(b3 h).2.1 x (by simpa using hx),?_⟩⟩
   ·have:=(b3 h).1
    omega
   ·have h9:=(b3 h).2.2;simp at h9;rw[LG];omega
def Lc(l:List Exp)(hl:l.length<=140737488355328)(hL:∀e∈l,e.Lim):∀(r:Nat)(i:Int),l.length-i.toNat=r->0<=i->i<=l.length->BB (l.length<=8/\∀e∈l.drop i.toNat,bh e/\Iz e<=50) (ao (L40_0 (aj pg) ao) [bE l,.int .i64 i]):=by
 intro r
 induction r with
 |zero=>
  intro i hr hi hb;rw[FL40_0];simp only[L40_0];have h1:¬(i<(l.length:Int)):=by omega
  simp[h1];exact⟨_,rfl,fun h=>by simp at h;exact⟨by omega,fun x hx=>by rw[Qg (by omega)]at hx;cases hx⟩⟩
 | succ r IH=>
  intro i hr hi hb;have h5:i<(l.length:Int):=by omega
  have hlt:i.toNat<l.length:=by omega
  rw[FL40_0];simp only[L40_0];by_cases hs:i<9
  ·obtain⟨k,hk,_,_,hq⟩:=t80 _ l[i.toNat] (P5 _) (hL _ (P2 hlt)) 50 16 (by omega) (by omega) (by omega);have h4:=IH (i+1) (by omega) (by omega) (by omega);simp (disch:=omega) [h5,hs,kL,PY l i.toNat hlt,bd,hk];by_cases hk5:50<k
   ·simp[hk5];exact .no
   ·simp[hk5];refine h4.imp fun h=>⟨h.1,fun x hx=>?_⟩;rw[P9 hlt]at hx;rcases Qm.1 hx with rfl|hx
    ·exact⟨(hq (by omega)).1,by have:=(hq (by omega)).2;omega⟩
    ·exact h.2 x (by rw[show (i+1).toNat=i.toNat+1 by omega];exact hx)
  ·simp[h5,hs];refine⟨_,rfl,fun h=>?_⟩;simp at h;omega
def t40(l:List Exp)(hl:l.length<=140737488355328)(hL:∀e∈l,e.Lim):BB (l.length<=8/\∀e∈l,bh e/\Iz e<=50) (aj pg 40 [bE l]):=by
 rw[C40];obtain⟨b,hb,h2⟩:=Lc l hl hL l.length 0 rfl (by omega) (by omega);refine⟨b,?_,fun h=>by simpa using h2 h⟩;simp[S40,hb]
def N6(e:Exp):aG T 24 1 [(0,e.av)]=some (bE [e]):=by cases e;rfl
def Ld(l:List cE)(hl:l.length<=140737488355328)(hL:∀e∈l,e.2.Lim):∀(r:Nat)(i:Int),l.length-i.toNat=r->0<=i->i<=l.length->BB (l.length<=8) (ao (L41_0 (aj pg) ao) [bm l,.int .i64 i]):=by
 intro r
 induction r with
 |zero=>
  intro i hr hi hb;rw[FL41_0];simp only[L41_0];have h1:¬(i<(l.length:Int)):=by omega
  simp[h1];exact⟨_,rfl,fun h=>by simp at h;omega⟩
 | succ r IH=>
  intro i hr hi hb;have h5:i<(l.length:Int):=by omega
  have hlt:i.toNat<l.length:=by omega
  rw[FL41_0];simp only[L41_0];by_cases hs:i<9
  ·obtain⟨k,hk,_⟩:=t16 [l[i.toNat].2] (by simp) (fun e he=>by rw[Qt.1 he];exact hL _ (P2 hlt));have h4:=IH (i+1) (by omega) (by omega) (by omega);by_cases h60:(60:Int)<(l[i.toNat].1.length:Int)
   ·simp (disch:=omega) [h5,hs,gp,PY l i.toNat hlt,bd,h60];exact .no
   ·simp (disch:=omega) [h5,hs,gp,PY l i.toNat hlt,bd,h60,Mr,hk];cases k with
    |false=>exact .no
    |true=>
     simp;exact h4
  ·simp[h5,hs];refine⟨_,rfl,fun h=>?_⟩;simp at h;omega
def t41(l:List cE)(hl:l.length<=140737488355328)(hL:∀e∈l,e.2.Lim):BB (l.length<=8) (aj pg 41 [bm l]):=by
 rw[C41];obtain⟨b,hb,h2⟩:=Ld l hl hL l.length 0 rfl (by omega) (by omega);refine⟨b,?_,h2⟩;simp[S41,hb]
def t10(l:List Val)(hl:l.length<=140737488355328)(hL:∀e∈l,e.Lim):BB (l.length<=8/\j0 l) (aj pg 10 [vals l]):=
 (Nl l hl hL).imp fun h=>⟨h.1,by have:=h.2.1;unfold j0;omega⟩
section
variable (m:Ap.Mod) (f:Ap.Fun)
theorem Pj:ab T 29 (.ip (aa m.av)) 0=some (.ip ((aa m.av).drop 0)):=rfl
theorem Pk:ab T 29 (.ip (aa m.av)) 1=some (.ip ((aa m.av).drop 1)):=rfl
theorem Pl:ab T 29 (.ip (aa m.av)) 3=some (.ip ((aa m.av).drop 3)):=rfl
theorem OY:ab T 29 (.ip (aa m.av)) 4=some (.ip ((aa m.av).drop 4)):=rfl
theorem Pb:ai T 9 (.ip ((aa m.av).drop 0))=some (.str m.name):=rfl
theorem Pf:ai T 22 (.ip ((aa m.av).drop 1))=some (strs m.uses):=rfl
theorem Ph:ai T 24 (.ip ((aa m.av).drop 3))=some (bE m.init):=rfl
theorem OX:ai T 25 (.ip ((aa m.av).drop 4))=some (mI m.funcs):=rfl
theorem Pa:ab T 27 (.ip ((aa m.av).drop 6)) 0=some (.ip ((aa m.av).drop 6)):=rfl
theorem OK:ai T 23 (.ip ((aa m.av).drop 6))=some (bm m.old):=rfl
theorem O7:ab T 68 (.ip (aa f.av)) 2=some (.ip ((aa f.av).drop 2)):=by cases f;rfl
theorem O8:ab T 68 (.ip (aa f.av)) 3=some (.ip ((aa f.av).drop 3)):=by cases f;rfl
theorem O9:ab T 68 (.ip (aa f.av)) 5=some (.ip ((aa f.av).drop 6)):=by cases f;rfl
theorem Pi:ai T 68 (.ip (aa f.av))=some f.av:=by obtain⟨n,p,ps,⟨k,fs⟩,ef,⟨o,nn,s,m,ns,es⟩⟩:=f;rfl
theorem OH:ai T 23 (.ip ((aa f.av).drop 2))=some (bm f.params):=by cases f;rfl
theorem OI:ai T 35 (.ip ((aa f.av).drop 3))=some f.result.av:=by obtain⟨n,p,ps,⟨k,fs⟩,ef,⟨o,nn,s,m,ns,es⟩⟩:=f;rfl
theorem OJ:ai T 66 (.ip ((aa f.av).drop 6))=some f.body.av:=by obtain⟨n,p,ps,⟨k,fs⟩,ef,⟨o,nn,s,m,ns,es⟩⟩:=f;rfl
end
theorem Ol(s:aR):aN T 9 (.str s)=some (.int .i64 s.length):=rfl
theorem leI(a b:Int):aw T BinOp.leq 3 (.int .i64 a) (.int .i64 b)=some (.bool (decide (a<=b))):=rfl
theorem MX(a b:Int):aw T BinOp.lss 3 (.int .i64 a) (.int .i64 b)=some (.bool (decide (a<b))):=rfl
def Dq(m:Ap.Mod):Prop:=(∀e∈m.init,bh e/\Iz e<=50)/\(∀e∈m.forward,Iz e<=50)/\(∀e∈m.back,Iz e<=50)/\m.init.length<=8
def wR(m:Ap.Mod)(hL:m.Lim)(i:Int)(hi:¬(i<(m.funcs.length:Int)/\i<5)):BB (SMod m/\Dq m) (ao (L9_0 (aj pg) ao) [.ip (aa m.av),.int .i64 i]):=by
 obtain⟨b1,e1,q1⟩:=t41 m.vars hL.vars hL.vty;obtain⟨b2,e2,q2⟩:=t40 m.init hL.init hL.ies;obtain⟨b3,e3,q3⟩:=t41 m.old hL.old hL.oty;obtain⟨b4,e4,q4⟩:=t40 m.forward hL.forward hL.fes;obtain⟨b5,e5,q5⟩:=t40 m.back hL.back hL.bes;have hg:(decide (i<(m.funcs.length:Int))&&decide (i<5))=false:=by
  cases h1:decide (i<(m.funcs.length:Int))
  ·rfl
  ·cases h2:decide (i<5)
   ·rfl
   ·exact absurd ⟨Ro h1,Ro h2⟩ hi
 rw[FL9_0];simp -implicitDefEqProofs only[L9_0,ax,aE,Pj,Pk,fm2,Pl,OY,fm6,Pb,Pf,qv,Ph,OX,Pa,fg1,fg2,OK,On,Oo,ak,ap,Dm,dA,Ol,MX,leI,qO,hg,am,PM,PP,e1,e2,e3,e4,e5];refine⟨_,rfl,fun h=>?_⟩;simp only[PO]at h;exact⟨⟨hL,by have:=q1 h.1.1.1.1.2;omega,fun e he=>((q4 h.1.2).2 e he).1,fun e he=>((q5 h.2).2 e he).1⟩,fun e he=>(q2 h.1.1.1.2).2 e he,fun e he=>((q4 h.1.2).2 e he).2,fun e he=>((q5 h.2).2 e he).2,(q2 h.1.1.1.2).1⟩
def MW(m:Ap.Mod)(hL:m.Lim):∀(r:Nat)(i:Int),m.funcs.length-i.toNat=r->0<=i->i<=m.funcs.length->BB (SMod m/\Dq m) (ao (L9_0 (aj pg) ao) [.ip (aa m.av),.int .i64 i]):=by
 intro r
 induction r with
 |zero=>intro i hr hi hb;exact wR m hL i (by omega)
 | succ r IH=>
  intro i hr hi hb;by_cases hs:i<(m.funcs.length:Int)/\i<5
  ·have hlt:i.toNat<m.funcs.length:=by omega
   have hbig:=hL.funcs;have hf:=hL.fns _ (P2 hlt);have hix:=Dl (l:=m.funcs) (n:=i) hi hs.1;rw[PY m.funcs i.toNat hlt]at hix;generalize m.funcs[i.toNat]=f at hf hix;have h4:=IH (i+1) (by omega) (by omega) (by omega);obtain⟨b1,e1,-⟩:=t40 [f.body] (by simp) (fun e he=>by rw[Qt.1 he];exact hf.body);obtain⟨b2,e2,-⟩:=t41 f.params hf.params hf.pty;obtain⟨b3,e3,-⟩:=t16 [f.result] (by simp) (fun e he=>by rw[Qt.1 he];exact hf.result);have hg:(decide (i<(m.funcs.length:Int))&&decide (i<5))=true:=by simp[hs.1,hs.2]
   have hadd:aw T BinOp.add 3 (.int .i64 i) (.int .i64 1)=some (.int .i64 (i+1)):=by simp (disch:=omega) [bd]
   rw[FL9_0];simp -implicitDefEqProofs only[L9_0,ax,aE,OY,OX,ak,ap,Dm,MX,qO,vv,hg,am,PQ,hix,Pi,bu (kD f),bl,O7,O8,O9,OH,OI,OJ,N6,Mr,e1,e2,e3,kf,hadd];split
   ·exact .no
   ·exact h4
  ·exact wR m hL i hs
def OC(m:Ap.Mod)(hL:m.Lim):BB (SMod m/\Dq m) (aj pg 9 [m.av]):=by
 obtain⟨b,hb,h2⟩:=MW m hL m.funcs.length 0 (by omega) (by omega) (by omega);refine⟨b,?_,h2⟩;rw[C9,eQ];rw[show S9 (aj pg) ao m.av=ao (L9_0 (aj pg) ao) [.ip (aa m.av),.int .i64 0]from rfl,hb];exact dK _
def t9(m:Ap.Mod)(hL:m.Lim):BB (SMod m) (aj pg 9 [m.av]):=(OC m hL).imp And.left
end Go.Proofs.YtihmmkncokjbaaaGreatDoor
namespace Go.Proofs.YtihmmkncokjbaaaGreatDoor
open Go Go.Av
set_option maxRecDepth 1000000
def Ah:ej pg 80 8 [] []= .ok (.bool true) []:=by kernel_rfl
def uo:aj pg 8 []=ay (.bool true):=by
 funext h;have h1:=Fh aH Ah (by simp);have e:∀h,aj pg 8 [] h=aJ (dD (pg.cx (aj pg) Tryz.f8.ntmps Kz) ao Tryz.f8 (pg.own 8) (eM aB [])) h:=fun h=>congrFun (aD aH rfl rfl rfl []) h;rw[e]at h1 |-;unfold aJ at h1 |-;generalize dD (pg.cx (aj pg) Tryz.f8.ntmps Kz) ao Tryz.f8 (pg.own 8) (eM aB []) []=r at h1 |-;cases r with
 |ok v h'=>
  simp only[R.ok.injEq]at h1;show R.ok (oO 6 h' v) h=_;rw[h1.1];rfl
 |pan v h'=>cases h1
 |fail=>cases h1
end Go.Proofs.YtihmmkncokjbaaaGreatDoor
