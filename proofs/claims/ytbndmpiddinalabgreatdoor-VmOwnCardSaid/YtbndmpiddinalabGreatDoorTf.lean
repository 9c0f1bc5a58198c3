/- What the functions compute, part 6. Conditions: bounds. -/
import Derived.Test.YtbndmpiddinalabGreatDoorTe
import Derived.Test.YtbndmpiddinalabGreatDoorLd
set_option linter.defProp false
set_option linter.unusedSimpArgs false
set_option linter.unusedVariables false
namespace Go.Proofs.YtbndmpiddinalabGreatDoor
open Go Go.Av Go.Av.Ap
set_option maxRecDepth 100000
def Hc(hl:List Int){n:Nat}(hn:hl.length=n):frz 6 (Hr hl) (.tup [.hs 0 0 n 1 false,.bool true])= .tup [ints hl,.bool true]:=by
 have hc:(hl.map (AV.int .i64)).all ay=true:=by
  rw[XJ];intro x hx;obtain⟨v,_,rfl⟩:=YP.1 hx;rfl
 have h1:(decide (0+n*1<=(hl.map (AV.int .i64)).length)&&decide (0<1)&&(false||(Nat.beq 1 1&&(hl.map (AV.int .i64)).all ay)))=true:=by
  rw[hc];simp[hn]
 unfold frz;simp only[cl,fp,Hr,List.getElem?_cons_zero,h1,Xw,XD];congr 2;unfold ints;congr 1;apply List.ext_getElem
 ·simp[hn]
 ·intro i h2 h3;have hi:i<hl.length:=by simpa using h3
  have hg:ab (hl.map (AV.int .i64)) (0+i*1)= .int .i64 hl[i]:=by
   rw[XI,Nat.mul_one];unfold ab;simp[hi]
  simp only[ZJ,List.getElem_range,hg];rfl
def Oq:Option (List Int)->AV
 |none=>.tup [.sl [],.bool false]
 |some hl=>.tup [ints hl,.bool true]
def Fw(n:Nat)(h:0<n):HInv n (0:: List.replicate (n-1) (-1)):=by
 have hneg:rk (0:: List.replicate (n-1) (-1))=n-1:=by
  unfold rk;rw[List.countP_cons_of_neg ZV,List.countP_replicate];simp
 have hl:(0:: List.replicate (n-1) (-1:Int)).length=n:=by simp;omega
 have hv:∀j,j<n->(0:: List.replicate (n-1) (-1:Int))[j]! = 0\/(0:: List.replicate (n-1) (-1:Int))[j]! = -1:=by
  intro j hj;rw[Xx _ j ZU];cases j with
  |zero=>exact .inl rfl
  |succ j=>grind
 refine⟨hl,fun j hj=>?_,fun j hj=>?_⟩
 all_goals grind
def t42(c:Cod)(hnb:c.code.length<=1000000)(hnm:∀i∈c.code,i.names.length<=1000000):af pg 42 [c.av]=ao (Oq (dm c)):=by
 have hN:=t88 c.func;have key:∃h',∃v,S42 (af pg) ak c.av []= .ok v h'/\frz 6 h' v=Oq (dm c):=by
  have hh:pn c= !((((!cq c.func||decide (c.params<0))||decide (6<c.params))||decide (c.locals<c.params))||decide ((c.code.length:Int)=0)):=by
   have e5:decide (c.code≠[])= !decide ((c.code.length:Int)=0):=by cases c.code<;>simp;omega
   have e2:decide (0<=c.params)= !decide (c.params<0):=by rw[<- Zr];exact Yr.2 ZS
   have e3:decide (c.params<=6)= !decide (6<c.params):=by rw[<- Zr];exact Yr.2 ZS
   have e4:decide (c.params<=c.locals)= !decide (c.locals<c.params):=by rw[<- Zr];exact Yr.2 ZS
   unfold pn;rw[e2,e3,e4,e5];simp[Bool.not_or]
  cases hd:pn c with
  | false=>
   rw[hd]at hh;have hb:((((!cq c.func||decide (c.params<0))||decide (6<c.params))||decide (c.locals<c.params))||decide ((c.code.length:Int)=0))=true:=by
    cases hx:((((!cq c.func||decide (c.params<0))||decide (6<c.params))||decide (c.locals<c.params))||decide ((c.code.length:Int)=0))with
    |true=>rfl
    |false=>grind
   refine⟨[],.tup [.sl [],.bool false],?_,?_⟩
   ·simp -implicitDefEqProofs only[S42,fK0,Vu,fK1,Wq,fK2,Vv,fK3,Hu,AE,ae,hN,aj,Fy,aB,dq,kY,aE,am,eB,hb,ai,XF];rfl
   ·unfold dm;rw[hd,Xr ZV];rfl
  | true=>
   rw[hd]at hh;have hb:((((!cq c.func||decide (c.params<0))||decide (6<c.params))||decide (c.locals<c.params))||decide ((c.code.length:Int)=0))=false:=by
    cases hx:((((!cq c.func||decide (c.params<0))||decide (6<c.params))||decide (c.locals<c.params))||decide ((c.code.length:Int)=0))with
    |false=>rfl
    |true=>grind
   have hpos:0<c.code.length:=by
    have:=(YH.1 hb).2
    rw[X2]at this;omega
   have hmk:qe T 24 (.int .i64 c.code.length) (.int .i64 c.code.length) []= .ok (.hs 0 0 c.code.length 1 false) (Hr (List.replicate c.code.length 0)):=by
    have e:hJ T 24 (.int .i64 c.code.length) (.int .i64 c.code.length)=some (.sl (List.replicate c.code.length (.int .i64 0))):=by
     show (if _/\_/\_/\_/\_ then _ else none)=_;rw[Xv ⟨ZS,ZS,ZS,ZU,rfl⟩];rfl
    have hz:dn 1 (List.replicate c.code.length (AV.int .i64 0))=true:=by
     have:=rq (List.replicate c.code.length (0:Int))
     rw[List.map_replicate]at this;exact this
    unfold qe;rw[e];show (bif dn 1 (List.replicate c.code.length (AV.int .i64 0))&&decide (0<1)&&decide (0<(List.replicate c.code.length (AV.int .i64 0)).length)then R.ok (AV.hs 0 0 (List.replicate c.code.length (AV.int .i64 0)).length 1 false) ([]++[(List.replicate c.code.length (AV.int .i64 0)).flatMap aa])else .fail)=_;rw[hz,Zj,XU hpos];have hfm:(List.replicate c.code.length (AV.int .i64 0)).flatMap aa=(List.replicate c.code.length (0:Int)).map (AV.int .i64):=by
     generalize c.code.length=n
     induction n with
     |zero=>rfl
     |succ n ih=>simp_all[List.replicate_succ]
    rw[hfm];rfl
   have hS:S42 (af pg) ak c.av []=ak (L42_2 (af pg) ak) [.ip (aa c.av),.hs 0 0 c.code.length 1 false,nG c.code,.int .i64 c.code.length,.int .i64 0] (Hr (List.replicate c.code.length 0)):=by
    simp -implicitDefEqProofs only[S42,fK0,Vu,fK1,Wq,fK2,Vv,fK3,Hu,AE,ae,hN,aj,Fy,aB,dq,kY,aE,am,eB,hb,ai,Xs,Xy];rw[aS hmk]
   rw[hS];rcases DZ (c:=c) rfl hnb hnm c.code [] rfl with⟨a1,h',a2⟩|⟨a1,a2⟩
   ·refine⟨h',.tup [.sl [],.bool false],a2,?_⟩;unfold dm;rw[Xr (fun e=>ZU)];rfl
   ·have a2':ak (L42_2 (af pg) ak) [.ip (aa c.av),.hs 0 0 c.code.length 1 false,nG c.code,.int .i64 c.code.length,.int .i64 0] (Hr (List.replicate c.code.length 0))=_:=a2;have h1:¬((c.code.length:Int)<(c.code.length:Int)):=ZS
    have hs0:aA T 24 (.hs 0 0 c.code.length 1 false) (.int .i64 0)=some (.hp 0 (0+0*1)):=ux (k:=0) hpos;have hst:=Ob (hl:=List.replicate c.code.length (-1)) (k:=0) ZU 0;have hset:(List.replicate c.code.length (-1:Int)).set 0 0=0:: List.replicate (c.code.length-1) (-1):=by
     obtain⟨m,hm⟩:∃m,c.code.length=m+1:=⟨c.code.length-1,ZS⟩;rw[hm];rfl
    rw[hset]at hst;have hI:=Fw c.code.length hpos;have hng:rk (0:: List.replicate (c.code.length-1) (-1))<=c.code.length:=by have:=hI.hi 0 hpos;rw[Xx _ 0 ZV]at this;simp at this;omega
    have hall:c.code.all (bH c.code.length c.locals)=true:=a1;have hH:dm c=ry c.code (2*c.code.length+2) (0:: List.replicate (c.code.length-1) (-1)) [0]:=by
     unfold dm;rw[Xv ⟨hd,hall⟩]
    have eL:ak (L42_2 (af pg) ak) [.ip (aa c.av),.hs 0 0 c.code.length 1 false,nG c.code,.int .i64 c.code.length,.int .i64 c.code.length] (Hr (List.replicate c.code.length (-1)))=ak (L42_1 (af pg) ak) [.ip (aa c.av),.hs 0 0 c.code.length 1 false,ints [0]] (Hr (0:: List.replicate (c.code.length-1) (-1))):=by
     rw[FL42_2];simp -implicitDefEqProofs only[L42_2,am,ar,aB,ae,ai,Xt,Xr h1,hs0];rw[aS hst];simp -implicitDefEqProofs only[Wb,ae]
    rw[a2',eL,hH];rcases AM (c:=c) rfl hnb (fun i hi=>XJ.1 hall i hi) (2*c.code.length+2) _ [0] hI ZU ZS (fun v hv=>ZU)with⟨h',b1,b2⟩|⟨hl',b1,b2,b3⟩
    ·exact⟨h',_,b2,by rw[b1];rfl⟩
    ·exact⟨_,_,b3,by rw[b1];exact Hc hl' b2⟩
 obtain⟨h',v,k1,k2⟩:=key;rw[C42,BZ];funext h;unfold bn;rw[k1];simp only[k2];rfl
theorem VM(n' n:Nat):bp T 23 (.hs n' 0 n 4 true)=some (.int .i64 n):=rfl
def dk.len{tag:Nat->Nat}{h:Hp}{k:Nat}{l:List Val}{v:AV}(H:dk tag k h l v):bp T 23 v=some (.int .i64 l.length):=
 gb.len (T:=T) (t:=23) (e:=33) rfl rfl rfl (fun n'=>VM n' _) rfl rfl H
theorem t109{tag:Nat->Nat}{h:Hp}{q:Nat}{A B:List AV}{i:Nat}{f:Frm}{lv sv:AV}(H:FrAt tag h q A B i f lv sv)(v:Val)(hb:f.stack.length<1000000000):
  ∃h' tag' sv',af pg 109 [.hp q A.length,v.av] h= .ok (.tup []) h'/\FrAt tag' h' q A B i { f with stack:=f.stack++[v] } lv sv'/\Kp tag tag' (fun k=>k=7\/k=12+3*i) h h':=by
 have hz:bR 4 (.agg [.int .i64 0,.int .i64 0,.sl [],.sl []])=true:=rfl;obtain⟨cs,tag1,rfl,hcl,happ,K1,ht1,HS⟩:=gb.push (T:=T) (t:=23) (e:=33) rfl rfl rfl rfl ZT rfl ZT H.st hz ZU;generalize hh1:oN sv h++[aw f.stack++aa (.agg [.int .i64 0,.int .i64 0,.sl [],.sl []])]=h1 at happ K1 HS;have hlen1:h1.length=h.length+1:=by
  rw[<- hh1];have:(oN sv h).length=h.length:=by
   unfold oN;split<;>simp
  simp[this]
 -- the frames' row stays
 obtain⟨kq1,kq2⟩:=K1 q _ H.row (by rw[H.tq];omega);have hrow1:h1[h.length]? = some (aw f.stack++aa (.agg [.int .i64 0,.int .i64 0,.sl [],.sl []])):=by
  rw[<- hh1];have:(oN sv h).length=h.length:=by
   unfold oN;split<;>simp
  rw[<- this];simp
 have hlt:q<h.length:=(XA.1 H.row).1
 -- the value is written to the last row
 have hset:setCells (aw f.stack++aa (.agg [.int .i64 0,.int .i64 0,.sl [],.sl []])) (f.stack.length*4) (aa v.av)=aw (f.stack++[v]):=by
  have:=kB (l:=f.stack++[⟨0,0,[],[]⟩]) (k:=f.stack.length) ZV v
  rw[kA]at this;rw[show aa (.agg [.int .i64 0,.int .i64 0,.sl [],.sl []])=aw [⟨0,0,[],[]⟩]from rfl,this];simp
 have e2:mc T true 33 (.hp h.length (0+f.stack.length*4)) v.av h1= .ok (.tup []) (h1.set h.length (aw (f.stack++[v]))):=by
  unfold mc;simp only[XI];rw[hlen1,Nat.beq_refl];simp only[X0,Xw];rw[bT (T:=T) (t:=33) rfl hrow1 ZW ZW ZT,hset]
 generalize hh2:h1.set h.length (aw (f.stack++[v]))=h2 at e2;have hq2:h2[q]? = some (A++iQ f lv sv++B):=by rw[<- hh2,List.getElem?_set_ne ZS];exact kq1
 have e3:mc T false 23 (.hp q (A.length+4)) (.hs h.length 0 (f.stack.length+1) 4 true) h2= .ok (.tup []) (h2.set q (A++iQ { f with stack:=f.stack++[v] } lv (.hs h.length 0 (f.stack.length+1) 4 true)++B)):=by
  unfold mc;have:Nat.beq (q+1) h2.length=false:=by
   rw[<- hh2,YR,hlen1];cases hb:Nat.beq (q+1) (h.length+1)with
   |false=>rfl
   |true=>simp_all
  show (bif Nat.beq (q+1) h2.length== false then bS T 23 (.hp q (A.length+4)) _ h2 else .fail)=_;rw[this];simp only[X0,Xw];rw[bT (T:=T) (t:=23) rfl hq2 rfl (by show _+1<=_;simp[iQ];omega) ZT];rw[set_mid (D:=iQ { f with stack:=f.stack++[v] } lv (.hs h.length 0 (f.stack.length+1) 4 true)) (by simp[iQ]) rfl]
 refine⟨h2.set q (A++iQ { f with stack:=f.stack++[v] } lv (.hs h.length 0 (f.stack.length+1) 4 true)++B),tag1,.hs h.length 0 (f.stack.length+1) 4 true,?_,⟨?_,kq2.trans H.tq,?_,?_⟩,?_⟩
 ·rw[C109];simp only[S109,aJ,ae,FH46_4];rw[ap (H.get (T:=T) (t:=23) rfl rfl (k:=4) rfl)];have b1:aQ T 23 1 [(0,.agg [.int .i64 0,.int .i64 0,.sl [],.sl []])]=some (.sl [.agg [.int .i64 0,.int .i64 0,.sl [],.sl []]]):=rfl;have l1:ax T 33 (.ip (aa v.av))=some v.av:=by cases v;rfl
  simp only[l1,ae,dk.len H.st,b1];rw[ap happ];have ix:aA T 23 (.hs h.length 0 (f.stack.length+1) 4 true) (.int .i64 f.stack.length)=some (.hp h.length (0+f.stack.length*4)):=by
   show (if(0:Int)<=(f.stack.length:Int)/\(f.stack.length:Int)<((f.stack.length+1:Nat):Int)then _ else _)=_;rw[Xv ZS];rfl
  simp only[ix,ae];rw[ap e2,ap e3];rfl
 ·grind
 ·refine dk.keep (Xc (kq2.trans H.tq) _) ZS ?_;refine dk.keep (tag:=tag1) (h:=h1) ?_ (k:=11+3*i) (ks:=fun k=>k=12+3*i) ZS (H.lo.keep K1 ZS);rw[<- hh2];exact Xc ht1 _
 ·refine dk.keep (Xc (kq2.trans H.tq) _) ZS ?_;refine .inr ⟨h.length,aw (f.stack++[v]),[],ZV,ht1,?_,?_,?_,?_,rfl⟩
  ·grind
  ·intro hh
   have:=X4 List.length hh
   simp[aX]at this
  all_goals grind [aX,iy]
 ·have K2:Kp tag1 tag1 (fun k=>k=12+3*i) h1 h2:=by rw[<- hh2];exact Xc ht1 _
  exact ((K1.trans K2).trans (Xc (kq2.trans H.tq) _)).mono fun k hk=>ZU
def xP(x:AV)(h:Hp):af pg 25 [x] h=cy T 23 (af pg) [x] h:=by
 have e:af pg 25 [x]=cy T 23 (af pg) [x]:=d9 g8 rfl _;rw[e]
theorem Ep{sv:AV}{tag:Nat->Nat}{k:Nat}{h:Hp}{l:List Val}(H:dk tag k h l sv){n:Nat}(hn:n<=l.length):
  ∃w,da T 23 sv (some (.int .i64 ((l.length:Int)-n))) none none=some w/\(n=0->w= .hn\/w= .he\/w= .sl [])/\
   (0<n->∃r rest,w= .hs r ((l.length-n)*4) n 4 true/\h[r]? = some (aw l++rest)/\(aw l++rest).all ay=true):=by
 rcases H with⟨h0,hv,_⟩|⟨r,cs,rest,rfl,hr,hcs,hne,hl,hok,rfl⟩
 ·have hn0:n=0:=ZS
  subst hn0;have hl:(l.length:Int)-(0:Nat)=0:=ZS
  rw[hl];rcases hv with rfl|rfl
  ·exact⟨.hn,rfl,fun _=>.inl rfl,fun h=>ZS⟩
  ·exact⟨.he,rfl,fun _=>.inr (.inl rfl),fun h=>ZS⟩
 ·have hs:da T 23 (.hs r 0 l.length 4 true) (some (.int .i64 ((l.length:Int)-n))) none none=if l.length-n<l.length then some (AV.hs r (0+(l.length-n)*4) (l.length-(l.length-n)) 4 true)else some (AV.sl []):=by
   unfold da;have hT:T 23=some ((T 23).get (by rfl)):=rfl;show (match cw none l.length l.length with|none=>none|some h=>match cw (some (.int .i64 ((l.length:Int)-n))) 0 h with|none=>none|some l'=>if 4=4 then(if l'<h then some (AV.hs r (0+l'*4) (h-l') 4 true)else some (AV.sl []))else none)=_;simp only[cw];rw[Xv ZS,show ((l.length:Int)-n).toNat=l.length-n by omega];simp
  grind
def tz(a b:Nat)(h:b<=a)(hb:a<1000000000000):cF T .sub 3 (.int .i64 a) (.int .i64 b)=some (.int .i64 ((a:Int)-b)):=by
 grind [dY,aM]
def t112{tag:Nat->Nat}{h:Hp}{q:Nat}{A B:List AV}{i:Nat}{f:Frm}{lv sv:AV}(H:FrAt tag h q A B i f lv sv)(n:Nat)(hn:n<=f.stack.length)(hb:f.stack.length<1000000000):
  ∃w,af pg 112 [.hp q A.length,.int .i64 n] h= .ok w h/\(n=0->w= .hn\/w= .he\/w= .sl [])/\
   (0<n->∃r rest,w= .hs r ((f.stack.length-n)*4) n 4 true/\h[r]? = some (aw f.stack++rest)/\(aw f.stack++rest).all ay=true):=by
 obtain⟨w,h1,h2,h3⟩:=Ep H.st hn;refine⟨w,?_,h2,h3⟩;rw[C112];simp only[S112,aJ,ae,FH46_4];have g:=H.get (T:=T) (t:=23) rfl rfl (k:=4) rfl;rw[ap g];rw[ap g];simp only[dk.len H.st,ae,tz _ _ hn ZS,h1];rfl
def jo{h:Hp}{r:Nat}{l:List Val}{rest:List AV}(h0:h[r]? = some (aw l++rest)){n j:Nat}(hn:n<=l.length)(hj:j<n):
  aA T 23 (.hs r ((l.length-n)*4) n 4 true) (.int .i64 (j:Int))=some (.hp r ((l.length-n+j)*4))/\bb T 33 (.hp r ((l.length-n+j)*4)) h= .ok (l[l.length-n+j]!).av h:=by
 constructor
 ·show (if(0:Int)<=(j:Int)/\(j:Int)<((n:Nat):Int)then some (AV.hp r ((l.length-n)*4+(j:Int).toNat*4))else none)=_
  grind
 ·rw[nJ (T:=T) (t:=33) rfl rfl rfl h0 ZS,Xx l _ ZS]
def t111{tag:Nat->Nat}{h:Hp}{q:Nat}{A B:List AV}{i:Nat}{f:Frm}{lv sv:AV}(H:FrAt tag h q A B i f lv sv)(n:Nat)(hn:n<=f.stack.length)(hb:f.stack.length<1000000000)(kt:Nat)(hkt:kt≠7):
  ∃h' tag' sv' rv,af pg 111 [.hp q A.length,.int .i64 n] h= .ok rv h'/\FrAt tag' h' q A B i { f with stack:=f.stack.take (f.stack.length-n) } lv sv'/\dk tag' kt h' (f.stack.drop (f.stack.length-n)) rv/\Kp tag tag' (fun k=>k=7) h h'/\
   ∃ext,h'=(h++ext).set q (A++iQ { f with stack:=f.stack.take (f.stack.length-n) } lv sv'++B):=by
 obtain⟨w,h1,h2,h3⟩:=Ep H.st hn;have hdl:(f.stack.drop (f.stack.length-n)).length=n:=by simp;omega
 -- the copy
 obtain⟨h4,tag4,rv,e1,K1,V1,hpre⟩:∃h4 tag4 rv,cy T 23 (af pg) [w] h= .ok rv h4/\Kp tag tag4 (fun _=>False) h h4/\dk tag4 kt h4 (f.stack.drop (f.stack.length-n)) rv/\∃ext,h4=h++ext:=by
  cases n with
  |zero=>
   have hnil:f.stack.drop (f.stack.length-0)=[]:=ZV
   refine⟨h,tag,.he,?_,fun r cs hr _=>⟨hr,rfl⟩,.inl ⟨by rw[hnil];rfl,.inr rfl,by rw[hnil];rfl⟩,[],ZV⟩;rcases h2 rfl with rfl|rfl|rfl<;>rfl
  |succ n=>
   obtain⟨r,rest,rfl,g1,g2⟩:=h3 ZS
   have:=o7 (T:=T) (t:=23) (e:=33) rfl rfl rfl rfl rfl ZT (af pg) g1 g2 (k:=f.stack.length-(n+1)) (n:=n+1) ZS ZU
   rw[Xr ZS]at this;have ht:(f.stack.drop (f.stack.length-(n+1))).take (n+1)=f.stack.drop (f.stack.length-(n+1)):=YE ZS;rw[ht]at this;refine⟨_,_,_,this,Kp.new tag h _ kt,.inr ⟨h.length,aw (f.stack.drop (f.stack.length-(n+1))),[],by rw[hdl],ZV,ZV,?_,by rw[aX],by grind [iy],rfl⟩,[_],rfl⟩;intro hh
   have:=X4 List.length hh
   simp[aX]at this;omega
 obtain⟨kq1,kq2⟩:=K1 q _ H.row id;have g0:=H.get (T:=T) (t:=23) rfl rfl (k:=4) rfl;have g4:bb T 23 (.hp q (A.length+4)) h4= .ok sv h4:=by
  refine bN rfl rfl kq1 ?_;rw[Yv (by simp[iQ]),XZ ZS,Ze];rfl
 have S4:dk tag4 (12+3*i) h4 f.stack sv:=H.st.keep K1 id
 -- what remains
 obtain⟨sv',e2,S5⟩:∃sv',rF T 23 sv none (some (.int .i64 ((f.stack.length:Int)-n))) none=some sv'/\dk tag4 (12+3*i) h4 (f.stack.take (f.stack.length-n)) sv':=by
  rcases S4 with⟨h0,hv,h00⟩|⟨r,cs,rest,rfl,hr,hcs,hne,hl,hok,rfl⟩
  ·have hn0:n=0:=ZS
   subst hn0;have hl:(f.stack.length:Int)-(0:Nat)=0:=ZS
   have hnil:f.stack=[]:=XH h0;rw[hl,hnil];rcases hv with rfl|rfl
   ·exact⟨.hn,rfl,.inl ⟨rfl,.inl rfl,rfl⟩⟩
   ·exact⟨.he,rfl,.inl ⟨rfl,.inr rfl,rfl⟩⟩
  ·refine⟨.hs r 0 (f.stack.length-n) 4 true,?_,?_⟩
   ·show (match cw (some (.int .i64 ((f.stack.length:Int)-n))) f.stack.length f.stack.length with|none=>none|some h=>if 4=4 then some (AV.hs r 0 h 4 true)else none)=_;simp only[cw]
    grind
   ·obtain⟨rest2,e,ho⟩:=wj f.stack (f.stack.length-n);refine .inr ⟨r,aw (f.stack.take (f.stack.length-n)),rest2++rest,ZU,hr,ZU,?_,by rw[aX],?_,rfl⟩
    all_goals grind
 have hst:bS T 23 (.hp q (A.length+4)) sv' h4= .ok (.tup []) (h4.set q (A++iQ { f with stack:=f.stack.take (f.stack.length-n) } lv sv'++B)):=by
  have hok:bR 1 sv'=true/\aa sv'=[sv']:=by
   rcases S5 with⟨_,rfl|rfl,_⟩|⟨r,cs,rest,rfl,_⟩<;>exact⟨rfl,rfl⟩
  rw[bT (T:=T) (t:=23) rfl kq1 hok.1 (by show _+1<=_;simp[iQ];omega) ZT];rw[set_mid (D:=iQ { f with stack:=f.stack.take (f.stack.length-n) } lv sv') (by simp[iQ]) rfl (by rw[hok.2];rfl) hok.2]
 have hlt:q<h4.length:=(XA.1 kq1).1;have K2:Kp tag4 tag4 (fun k=>k=7) h4 (h4.set q (A++iQ { f with stack:=f.stack.take (f.stack.length-n) } lv sv'++B)):=Xc (kq2.trans H.tq) _;refine⟨_,tag4,sv',rv,?_,⟨XV hlt,kq2.trans H.tq,(H.lo.keep K1 id).keep K2 ZS,S5.keep K2 ZS⟩,V1.keep K2 hkt,(K1.trans K2).mono fun k h=>h.elim False.elim id,ZU⟩
 ·rw[C111];simp only[S111,aJ,ae,FH46_4];rw[ap g0];simp only[dk.len H.st,ae,tz _ _ hn ZS];rw[ap g0];simp only[h1,ae];rw[ap ((xP w h).trans e1),ap g4];simp only[e2,ae];rw[ap hst];rfl
def t49(n:Int):af pg 49 [.int .i64 n]=ao (cp n).av:=by
 rw[C49];rfl
def t110(b:Bool):af pg 110 [.bool b]=ao (Ap.dS b).av:=by
 rw[C110];cases b<;>rfl
def BL{α:Type}(p q r s t:Bool)(k:AV->M α):
  au (aK (.bool p) true 1 (ao [.bool q])) (fun v13=>au (bP (gx (.bool p) (ab v13 0) (.bool false))) fun v14=>au (bP (KC .not v14)) fun v15=>
   au (aK v15 true 1 (ao [.bool r])) fun v17=>au (aK (ab v17 0) false 1 (ao [.bool s])) fun v21=>
   au (aK v15 true 1 (au (bP (gx (ab v17 0) (.bool true) (ab v21 0))) fun v22=>ao [v22])) fun v23=>
   au (aK (ab v23 0) false 1 (ao [.bool t])) fun v27=>
   au (aK v15 true 1 (au (bP (gx (ab v23 0) (.bool true) (ab v27 0))) fun v28=>ao [v28])) fun v29=>
   au (bP (gx v15 (ab v29 0) (.bool false))) k)=k (.bool (!(p&&q)&&(r||s||t))):=by
 simp_all
theorem t118{tag:Nat->Nat}{h:Hp}{q:Nat}{A B:List AV}{i:Nat}{f:Frm}{lv sv:AV}(H:FrAt tag h q A B i f lv sv)(op:Int)(h2:2<=f.stack.length)(hb:f.stack.length<1000000000):
  match BJ op f.stack[f.stack.length-2]! f.stack[f.stack.length-1]! with
  |none=>af pg 118 [.hp q A.length,.int .i64 op] h= .ok (.int .i64 13) h
  |some x=>∃h' tag' sv',af pg 118 [.hp q A.length,.int .i64 op] h= .ok (.int .i64 0) h'/\FrAt tag' h' q A B i { f with stack:=f.stack.take (f.stack.length-2)++[x] } lv sv'/\Kp tag tag' (fun k=>k=7\/k=12+3*i) h h':=by
 obtain⟨w,g1,_,g3⟩:=t112 H 2 h2 hb;obtain⟨r,rest,rfl,hr,_⟩:=g3 ZT;have i0:aA T 23 (.hs r ((f.stack.length-2)*4) 2 4 true) (.int .i64 0)=some (.hp r ((f.stack.length-2+0)*4)):=(jo hr h2 (j:=0) ZT).1;have i1:aA T 23 (.hs r ((f.stack.length-2)*4) 2 4 true) (.int .i64 1)=some (.hp r ((f.stack.length-2+1)*4)):=(jo hr h2 (j:=1) ZT).1;have l0:=(jo hr h2 (j:=0) ZT).2;have l1:=(jo hr h2 (j:=1) ZT).2;rw[show f.stack.length-2+0=f.stack.length-2 by omega]at l0 i0;rw[show f.stack.length-2+1=f.stack.length-1 by omega]at l1 i1;obtain⟨h',tag',sv',rv,e1,F1,_,K1,_⟩:=t111 H 2 h2 hb 3 ZT;have hlen1:(f.stack.take (f.stack.length-2)).length<1000000000:=by simp;omega
 have e0:af pg 112 [.hp q A.length,.int .i64 2] h= .ok (.hs r ((f.stack.length-2)*4) 2 4 true) h:=g1;have e1':af pg 111 [.hp q A.length,.int .i64 2] h= .ok rv h':=e1;have run:∀x:Val,∃h3 tag3 sv3,af pg 109 [.hp q A.length,x.av] h'= .ok (.tup []) h3/\FrAt tag3 h3 q A B i { f with stack:=f.stack.take (f.stack.length-2)++[x] } lv sv3/\Kp tag tag3 (fun k=>k=7\/k=12+3*i) h h3:=fun x=>by
  obtain⟨h3,tag3,sv3,p1,p2,p3⟩:=t109 F1 x hlen1;exact⟨h3,tag3,sv3,p1,p2,(K1.trans p3).mono fun k hk=>ZU⟩
 generalize f.stack[f.stack.length-2]! = a at l0 |-;generalize f.stack[f.stack.length-1]! = b at l1 |-;generalize hc:af pg 118 [.hp q A.length,.int .i64 op] h=code;rw[C118,S118,ap e0,i0,ae,ap l0,i1,ae,ap l1]at hc;simp -implicitDefEqProofs only[bc (dW a),bc (dW b),aj,aI,bK,FA33_0,FA33_1,XK,XQ,LD3,ae,aH,fY,bm,dY,Dk,aB,BL,ai]at hc;unfold BJ;by_cases hk:(a.kind=0/\b.kind=0)\/(op=8/\a.kind=1/\b.kind=1)
 ·have hg:(!(a.kind== 0&&b.kind== 0)&&((op != 8||a.kind != 1)||b.kind != 1))=false:=by
   rcases hk with⟨h1,h2⟩|⟨h1,h2,h3⟩
   ·simp[h1,h2]
   ·grind
  rw[Xv hk];rw[hg]at hc;simp only[Xs,Xy]at hc;rw[ap e1']at hc;by_cases h4:op=4
  ·subst h4;obtain⟨h3,tag3,sv3,p1,p2,p3⟩:=run (cp (wr (a.n+b.n)));refine⟨h3,tag3,sv3,?_,by simpa using p2,p3⟩;rw[<- hc];simp -implicitDefEqProofs only[X0,XF,aj,t49];rw[show IntKind.i64.wrap (a.n+b.n)=wr (a.n+b.n)from rfl,ap p1];rfl
  have b4:(op== 4)=false:=by simp[h4]
  by_cases h5:op=5
  ·subst h5;obtain⟨h3,tag3,sv3,p1,p2,p3⟩:=run (cp (wr (a.n-b.n)));refine⟨h3,tag3,sv3,?_,by simpa using p2,p3⟩;rw[<- hc];simp -implicitDefEqProofs only[X0,XF,show ((5:Int)== 4)=false from rfl,Xs,Xy,aj,t49];rw[show IntKind.i64.wrap (a.n-b.n)=wr (a.n-b.n)from rfl,ap p1];rfl
  have b5:(op== 5)=false:=by simp[h5]
  by_cases h6:op=6
  ·subst h6;obtain⟨h3,tag3,sv3,p1,p2,p3⟩:=run (cp (wr (a.n*b.n)));refine⟨h3,tag3,sv3,?_,by simpa using p2,p3⟩;rw[<- hc];simp -implicitDefEqProofs only[X0,XF,show ((6:Int)== 4)=false from rfl,show ((6:Int)== 5)=false from rfl,Xs,Xy,aj,t49];rw[show IntKind.i64.wrap (a.n*b.n)=wr (a.n*b.n)from rfl,ap p1];rfl
  have b6:(op== 6)=false:=by simp[h6]
  by_cases h7:op=7
  ·subst h7;obtain⟨h3,tag3,sv3,p1,p2,p3⟩:=run (Ap.dS (decide (a.n<b.n)));refine⟨h3,tag3,sv3,?_,by simpa using p2,p3⟩;rw[<- hc];simp -implicitDefEqProofs only[X0,XF,show ((7:Int)== 4)=false from rfl,show ((7:Int)== 5)=false from rfl,show ((7:Int)== 6)=false from rfl,Xs,Xy,aj,t110];rw[ap p1];rfl
  have b7:(op== 7)=false:=by simp[h7]
  obtain⟨h3,tag3,sv3,p1,p2,p3⟩:=run (Ap.dS (a.n== b.n));refine⟨h3,tag3,sv3,?_,ZU,p3⟩;rw[<- hc];simp -implicitDefEqProofs only[b4,b5,b6,b7,Xs,Xy,t110,aj];rw[ap p1];rfl
 ·have hg:(!(a.kind== 0&&b.kind== 0)&&((op != 8||a.kind != 1)||b.kind != 1))=true:=by
   cases hh:(!(a.kind== 0&&b.kind== 0)&&((op != 8||a.kind != 1)||b.kind != 1))with
   |true=>rfl
   |false=>
    grind
  rw[Xr hk];rw[hg]at hc;simp only[XF]at hc;rw[<- hc];rfl
theorem t53{L:MLay}{tag:Nat->Nat}{sv dv cv:AV}{vc:List AV}{p:Proc}{h:Hp}{q n:Nat}(H:MR L tag sv (.hs q 0 (n+1) 5 true) dv cv vc p h)(hn:n<1000000):af pg 53 [.hp L.rm 0] h= .ok (.hp q (n*5)) h:=by
 have g:bb T 29 (.hp L.rm (0+0+2)) h= .ok (.hs q 0 (n+1) 5 true) h:=H.get (T:=T) (t:=29) rfl rfl rfl;have hl:bp T 29 (.hs q 0 (n+1) 5 true)=some (.int .i64 ((n+1:Nat):Int)):=rfl;have hs:cF T .sub 3 (.int .i64 ((n+1:Nat):Int)) (.int .i64 1)=some (.int .i64 (n:Int)):=by
  have:=tz (n+1) 1 ZS ZS
  rw[show (((n+1:Nat):Int)-((1:Nat):Int))=(n:Int) by omega]at this;exact this
 have hi:aA T 29 (.hs q 0 (n+1) 5 true) (.int .i64 (n:Int))=some (.hp q (n*5)):=by
  show (if(0:Int)<=(n:Int)/\(n:Int)<((n+1:Nat):Int)then some (AV.hp q (0+(n:Int).toNat*5))else none)=_;rw[Xv ZS];simp
 rw[C53];simp only[S53,aJ,ae,FH82_0,FH39_2];rw[ap g,ap g];simp only[hl,hs,hi,ae];rfl
theorem RJ(r n:Nat)(a:Int)(h0:0<=a)(h1:a<n):aA T 23 (.hs r 0 n 4 true) (.int .i64 a)=some (.hp r (0+a.toNat*4)):=by
 have e:aA T 23 (.hs r 0 n 4 true) (.int .i64 a)=if 0<=a/\a<(n:Int)then some (.hp r (0+a.toNat*4))else none:=rfl
 grind
def qt{X Y xs:List AV}{k:Nat}(h:k+xs.length<=X.length):setCells (X++Y) k xs=setCells X k xs++Y:=by
 grind [setCells]
def vQ(L:MLay)(p:Proc)(h:Hp):Prop:=∃tag sv fv dv cv vc,MR L tag sv fv dv cv vc p h
def O4(Q:StP)(L:MLay)(sv:AV)(p:Proc)(h:Hp):Prop:=∃tag fv dv cv vc,MRG Q L tag sv fv dv cv vc p h
def O4.x{L:MLay}{sv:AV}{p:Proc}{h:Hp}(H:O4 V0 L sv p h):vQ L p h:=by
 obtain⟨tag,fv,dv,cv,vc,H⟩:=H;exact⟨tag,sv,fv,dv,cv,vc,H⟩
set_option maxHeartbeats 1000000 in
def t116{L:MLay}{tag:Nat->Nat}{sv dv cv:AV}{vc:List AV}{p:Proc}{h:Hp}{q:Nat}{fs:List Frm}{f:Frm}{A B:List AV}{lv stv:AV}(H:MR L tag sv (.hs q 0 (fs.length+1) 5 true) dv cv vc p h)(M:MapOk T 79 80 L p.mods)(hA:eh tag h 0 fs A)(F:FrAt tag h q A B fs.length f lv stv)(hB:B.all ay=true)(i:Ins)(hi:0<=cV p.mods f.mod){w:Vars}(hw:p.state[(cV p.mods f.mod).toNat]? = some w)(hb:f.stack.length<1000000000)(hwb:w.values.length<1000000000)(ha:0<=i.a)(ho:i.op≠16->1<=f.stack.length):
  if i.a<w.values.length then ∃h',af pg 116 [.hp L.rm 0,.hp q A.length,i.av] h= .ok (.int .i64 0) h'/\
   vQ L (if i.op=16 then{ p with frames:=fs++[{ f with stack:=f.stack++[w.values[i.a.toNat]!] }] }else{ p with frames:=fs++[f],state:=p.state.modify (cV p.mods f.mod).toNat fun w=>{ w with values:=w.values.set i.a.toNat f.stack[f.stack.length-1]! } }) h'
  else af pg 116 [.hp L.rm 0,.hp q A.length,i.av] h= .ok (.int .i64 12) h:=by
 generalize hj:(cV p.mods f.mod).toNat=j at hw |-;have hjI:cV p.mods f.mod=(j:Int):=ZS
 have hjl:j<p.state.length:=(XA.1 hw).1;rcases H.sth with⟨h0,_⟩|⟨r,cs,rest,rfl,hr,hcs,hne,hl,hok,HS⟩
 ·omega
 obtain⟨av,a1,a2⟩:=HS.at j w hw;rw[XI]at a2;have g1:bb T 28 (.hp L.rm (0+0+1)) h= .ok (.hs r 0 p.state.length 2 true) h:=H.get (T:=T) (t:=28) rfl rfl rfl;have g2:bb T 79 (.hp L.rm (0+13)) h= .ok (.mp L.ri) h:=H.get (T:=T) (t:=79) rfl rfl (ol H.vo.len 4);have g3:bb T 9 (.hp q (A.length+0)) h= .ok (.str f.mod) h:=F.get (T:=T) (t:=9) rfl rfl (k:=0) rfl;have g4:ec T 79 (.mp L.ri) (.str f.mod) false h= .ok (.int .i64 (j:Int)) h:=by rw[<- hjI];exact M.idx h H.ri f.mod hi
 have g5:aA T 28 (.hs r 0 p.state.length 2 true) (.int .i64 (j:Int))=some (.hp r (0+j*2)):=by
  show (if(0:Int)<=(j:Int)/\(j:Int)<((p.state.length:Nat):Int)then some (AV.hp r (0+(j:Int).toNat*2))else none)=_;rw[Xv ZS];simp
 have g6:bb T 23 (.hp r (0+j*2+1)) h= .ok av h:=by
  refine bN rfl rfl hcs ?_;have:j*2+1<cs.length:=(XA.1 a1).1;rw[XI,Yv this];exact a1
 have g7:=dk.len a2;generalize hc:af pg 116 [.hp L.rm 0,.hp q A.length,i.av] h=code;rw[C116]at hc;simp only[S116,aJ,ae,FH82_0,FH82_1,FH39_1,FH46_0]at hc;rw[ap g1,ap g2,ap g3,ap g4]at hc;simp only[g5,ae,FH61_1]at hc;rw[ap g6]at hc;simp -implicitDefEqProofs only[fJ1,Fj,ae,g7,jq,ai,fJ0,vZ,kY,Xt]at hc;by_cases hlt:i.a<w.values.length
 ·rw [Xv hlt];rw[Xr ZS]at hc;obtain⟨rv,rest2,hav,hrv,hcs2,hok2⟩:∃rv rest2,av= .hs rv 0 w.values.length 4 true/\tag rv=10+3*j/\h[rv]? = some (aw w.values++rest2)/\(aw w.values++rest2).all ay=true:=by
   clear hc;rcases a2 with⟨h0,_⟩|⟨rv,cs2,rest2,e,hrv,hcs2,hne2,hl2,hok2,e2⟩
   all_goals grind
  have ia:aA T 23 av (.int .i64 i.a)=some (.hp rv (0+i.a.toNat*4)):=by rw[hav];exact RJ rv w.values.length i.a ha hlt
  have hal:i.a.toNat<w.values.length:=(Int.toNat_lt ha).2 hlt;by_cases hop:i.op=16
  ·rw[Xv hop]at hc |-;simp only[ia,ae,XI]at hc;rw[ap (nJ (T:=T) (t:=33) rfl rfl rfl hcs2 hal)]at hc;obtain⟨h3,tag3,sv3,p1,p2,p3⟩:=t109 F w.values[i.a.toNat] hb;rw[ap p1]at hc;rw[Xx w.values _ hal];have R:=H.unfocus hA (p3.mono fun k hk=>ZU) p2 hB;exact⟨h3,hc.symm,⟨tag3,_,_,_,_,_,R⟩⟩
  ·rw [Xr hop]at hc |-;have hst:=ho hop;obtain⟨w',e1,_,e3⟩:=t112 F 1 hst hb;obtain⟨rs,rests,rfl,hrs,_⟩:=e3 ZT;have e1':af pg 112 [.hp q A.length,.int .i64 1] h= .ok (.hs rs ((f.stack.length-1)*4) 1 4 true) h:=e1;have i0:aA T 23 (.hs rs ((f.stack.length-1)*4) 1 4 true) (.int .i64 0)=some (.hp rs ((f.stack.length-1+0)*4)):=(jo hrs hst (j:=0) ZT).1;have l0:=(jo hrs hst (j:=0) ZT).2;rw[ap e1']at hc;simp only[i0,ae]at hc;rw[ap l0]at hc;simp only[ia,ae,XI]at hc;rw[show f.stack.length-1+0=f.stack.length-1 by omega]at hc;generalize f.stack[f.stack.length-1]! = v at hc |-;have hset:setCells (aw w.values++rest2) (i.a.toNat*4) (aa v.av)=aw (w.values.set i.a.toNat v)++rest2:=by
    rw[qt (by rw[aX];simp;omega),kB hal]
   have s1:bS T 33 (.hp rv (i.a.toNat*4)) v.av h= .ok (.tup []) (h.set rv (aw (w.values.set i.a.toNat v)++rest2)):=by
    rw[bT (T:=T) (t:=33) rfl hcs2 ZW (by grind [aX]) ZT,hset]
   rw[ap s1]at hc;have hrl:rv<h.length:=(XA.1 hcs2).1;have K:Kp tag tag (fun k=>k=10+3*j) h (h.set rv (aw (w.values.set i.a.toNat v)++rest2)):=Xc hrv _;have km:=K _ _ H.row (by rw[H.tm];omega);have ki:=K _ _ H.ri (by rw[H.ti];omega);have kf:=K _ _ H.rf (by rw[H.tf];omega);have hnr:∀ {k:Nat} {x:AV} {l:List Val},k≠10+3*j->dk tag k h l x->dk tag k (h.set rv (aw (w.values.set i.a.toNat v)++rest2)) l x:=fun hk hv=>hv.keep K hk;have R:MR L tag (.hs r 0 p.state.length 2 true) (.hs q 0 (fs.length+1) 5 true) dv cv vc { p with frames:=fs++[f],state:=p.state.modify j fun w=>{ w with values:=w.values.set i.a.toNat v } } (h.set rv (aw (w.values.set i.a.toNat v)++rest2)):=by
    refine⟨km.1,H.tm,ki.1,H.ti,kf.1,H.tf,?_,?_,H.ds.keep K ZS fun _ h=>h,H.cs.keep K ZS fun _ h=>h.keep K ZS,H.vo,H.so⟩
    ·have kr:=K _ _ hcs (by rw[hr];omega);refine .inr ⟨r,cs,rest,ZV,hr,kr.1,hne,by simpa using hl,hok,?_⟩
     have:=HS.set j w av hw a1 (h':=h.set rv (aw (w.values.set i.a.toNat v)++rest2)) (ws:=w.values.set i.a.toNat v) ZU (by
      rw[XI];rw[hav];refine .inr ⟨rv,aw (w.values.set i.a.toNat v),rest2,ZV,hrv,XV hrl,?_,by rw[aX],?_,rfl⟩
      ·intro hh
       have:=X4 List.length hh
       grind [aX]
      simp_all[iy])
     have e:(p.state.modify j fun w0=>{ w0 with values:=w.values.set i.a.toNat v })=p.state.modify j fun w=>{ w with values:=w.values.set i.a.toNat v }:=by
      apply YJ;intro n;rw[Zp,Zp];by_cases hn:j=n
      ·grind
      ·simp[hn]
     grind
    ·have F2:FrAt tag (h.set rv (aw (w.values.set i.a.toNat v)++rest2)) q A B fs.length f lv stv:=⟨(K _ _ F.row (by rw[F.tq];omega)).1,F.tq,hnr ZS F.lo,hnr ZS F.st⟩;have hA2:eh tag (h.set rv (aw (w.values.set i.a.toNat v)++rest2)) 0 fs A:=hA.keep K fun j _ _=>ZU
     refine .inr ⟨q,A++iQ f lv stv,B,ZV,F2.tq,F2.row,by simp[iQ],by simp[iQ,hA.len];omega,?_,?_⟩
     ·rw[YY,YY,hA.ok,hB];simp only[iQ,XP,Zq,F.lo.okC,F.st.okC];rfl
     ·exact hA2.snoc (by rw[XI];exact F2.lo) (by rw[XI];exact F2.st)
   exact⟨_,hc.symm,⟨tag,_,_,_,_,_,R⟩⟩
 ·rw[Xr hlt];rw[Xv ZS]at hc;exact hc.symm
theorem EK(a b c:Int):cG T false 101 [(0,.int .i64 a),(1,.int .i64 b),(2,.int .i64 c)]=some (Deed.av ⟨a,b,c⟩):=rfl
theorem BO(d:Deed):aQ T 34 1 [(0,d.av)]=some (.sl [d.av]):=rfl
def xK{L:MLay}{tag:Nat->Nat}{sv dv cv:AV}{vc:List AV}{p:Proc}{h:Hp}{q:Nat}{fs:List Frm}{f:Frm}{A B:List AV}{lv stv:AV}(H:MR L tag sv (.hs q 0 (fs.length+1) 5 true) dv cv vc p h)(hA:eh tag h 0 fs A)(F:FrAt tag h q A B fs.length f lv stv)(hB:B.all ay=true)(i:Ins)(v:Val)(a:Int)(hb:f.stack.length<1000000000)(hd:p.out.deeds.length<1000000):
  ∃h',K117_0 (af pg) ak [.hp L.rm 0,.hp q A.length,.ip (aa i.av),.ip (aa v.av),.int .i64 a] h= .ok (.int .i64 0) h'/\
   vQ L { p with frames:=fs++[{ f with stack:=f.stack++[cp a] }],out:={ p.out with deeds:=p.out.deeds++[⟨i.a,v.n,a⟩] } } h':=by
 have g1:bb T 34 (.hp L.rm (0+0+4+5)) h= .ok dv h:=H.get (T:=T) (t:=34) rfl rfl (ol H.vo.len 0);obtain⟨h1,tag1,dv1,e1,K1,o1,o2,r1,R1⟩:=H.deed (T:=T) (t:=34) (e:=101) rfl rfl rfl rfl rfl ZT ⟨i.a,v.n,a⟩ (XM (XB _ (show p.out.deeds.length+1<=1000000 by omega)) ZT);have s1:bS T 34 (.hp L.rm (0+0+4+5)) dv1 h1= .ok (.tup []) (h1.set L.rm (fG L p sv (.hs q 0 (fs.length+1) 5 true) dv1 cv vc)):=by
  rw[bT (T:=T) (t:=34) rfl r1 o1 (by rw[l8 H.vo.len];decide) ZT,o2,NN H.vo.len]
 have t1:=R1.tm;have K2:Kp tag1 tag1 (fun k=>k=0) h1 (h1.set L.rm (fG L p sv (.hs q 0 (fs.length+1) 5 true) dv1 cv vc)):=Xc t1 _;have K12:=K1.trans K2;have F2:=F.keep K12 ⟨ZS,ZS,ZS⟩;have hA2:=hA.keep K12 fun j _ _=>ZU
 obtain⟨h3,tag3,sv3,p1,p2,p3⟩:=t109 F2 (cp a) hb;have R3:=R1.unfocus hA2 (p3.mono fun k hk=>ZU) p2 hB;refine⟨h3,?_,⟨tag3,_,_,_,_,_,R3⟩⟩;rw[K117_0];simp -implicitDefEqProofs only[am,ar,aJ,ae,FH82_0,FH39_4,FH37_2];rw[ap g1];simp -implicitDefEqProofs only[fJ1,Fj,ae,bK,FA33_1,XQ,XK,LD3,EK,BO];rw[ap e1,ap s1];simp only[t49,aj];rw[ap p1];rfl
theorem AP(l:List aW)(x:aW)(hb:l.length<=1000000):∀(B A:List aW),A++B=l->
  ak (L159_0 (af pg) ak) [strs l,.str x,.int .i64 l.length,.int .i64 A.length]=ao (.int .i64 (aY (fun y=>y== x) B A.length))
 |[],A,e=>by
  rw[XS]at e;subst e;have h1:¬((A.length:Int)<(A.length:Int)):=ZS
  rw[FL159_0];simp -implicitDefEqProofs only[L159_0,am,ar,aB,ae,ai,Xt,Xr h1];rfl
 |y:: B,A,e=>by
  have hlen:A.length+(B.length+1)=l.length:=by rw[<- e];simp
  have h1:(A.length:Int)<(l.length:Int):=ZS
  have hix:=pI (l:=l) (n:=(A.length:Int)) ZS h1;have hxx:l[A.length]! = y:=by rw[Xx l A.length ZS];simp[<- e]
  rw[XC,hxx]at hix;have hw:IntKind.i64.wrap ((A.length:Int)+1)=((A++[y]).length:Nat):=by rw[aM ZS ZS];simp
  have ih:=AP l x hb B (A++[y]) ZU;have hc:(x== y)=(y== x):=BEq.comm;have hld:ax T 9 (.ip (aa (AV.str y)))=some (.str y):=rfl;have hsq:cF T .eql 9 (.str x) (.str y)=some (.bool (x== y)):=yZ ..;rw[FL159_0];simp -implicitDefEqProofs only[L159_0,am,ar,aB,ae,ai,Xt,Xv h1,hix,hld,hsq,hc];rw[show aY (fun y=>y== x) (y:: B) A.length=if(y== x)=true then(A.length:Int)else aY (fun y=>y== x) B ((A.length:Int)+1)from rfl];simp_all
def tv159(l:List aW)(x:aW)(hb:l.length<=1000000):af pg 159 [strs l,.str x]=ao (.int .i64 (aY (fun y=>y== x) l 0)):=by
 have h:=AP l x hb l [] rfl;have h':ak (L159_0 (af pg) ak) [strs l,.str x,.int .i64 l.length,.int .i64 0]=ao (.int .i64 (aY (fun y=>y== x) l 0)):=h;rw[C159,show cl aF (strs l)=strs l by simp,show cl aF (.str x)= .str x from rfl]
 grind [S159,iB,ae,nH]
def FZ{α:Type}(p a q b r c d:Bool)(k:AV->M α):
  au (aK (.bool p) true 1 (ao [.bool a])) (fun v74=>au (bP (gx (.bool p) (ab v74 0) (.bool false))) fun v75=>aC v75 (k v75) (au (aK (.bool q) true 1 (ao [.bool b])) fun v82=>
   au (bP (gx (.bool q) (ab v82 0) (.bool false))) fun v83=>aC v83 (k v83) (au (aK (.bool r) true 1 (ao [.bool c])) fun v90=>au (aK (ab v90 0) false 1 (ao [.bool d])) fun v92=>
   au (aK (.bool r) true 1 (au (bP (gx (ab v90 0) (.bool true) (ab v92 0))) fun v93=>ao [v93])) fun v94=>au (bP (gx (.bool r) (ab v94 0) (.bool false))) k)))=k (.bool (p&&a||(q&&b||r&&(c||d)))):=by
 cases p<;>cases a<;>cases q<;>cases b<;>cases r<;>cases c<;>cases d<;>rfl
theorem wR:∀(ns:List aW)(vs:List Val)(s:aW)(i:Int),ns.length=vs.length->0<=i->
  (aY (fun y=>y== s) ns i= -1/\gO ns vs s=none)\/∃k:Nat,k<vs.length/\aY (fun y=>y== s) ns i=i+k/\gO ns vs s=some vs[k]!
 |[],[],_,_,_,_=>.inl ⟨rfl,rfl⟩
 | n:: ns,v:: vs,s,i,h,h0=>by
  have e1:aY (fun y=>y== s) (n:: ns) i=if(n== s)=true then i else aY (fun y=>y== s) ns (i+1):=rfl;have e2:gO (n:: ns) (v:: vs) s=if n=s then some v else gO ns vs s:=rfl;by_cases hn:n=s
  ·grind
  ·rw[e1,Xr (by simp[hn]),e2,Xr hn];rcases wR ns vs s (i+1) (by simpa using h) (ZS)with⟨g1,g2⟩|⟨k,g1,g2,g3⟩
   ·grind
   ·refine .inr ⟨k+1,by simp;omega,by rw[g2];omega,?_⟩
    grind
 |[],_:: _,_,_,h,_=>by simp at h
 |_:: _,[],_,_,h,_=>by simp at h
theorem IQ{L:MLay}{tag:Nat->Nat}{sv dv cv:AV}{vc:List AV}{p:Proc}{h:Hp}{q:Nat}{fs:List Frm}{f:Frm}{A B:List AV}{lv stv:AV}(H:MR L tag sv (.hs q 0 (fs.length+1) 5 true) dv cv vc p h)(hA:eh tag h 0 fs A)(F:FrAt tag h q A B fs.length f lv stv)(hB:B.all ay=true)(i:Ins)(v:Val)(at_:Int)(h1:1<=f.stack.length)(hb:f.stack.length<1000000000)(hd:p.out.deeds.length<1000000)(hop:i.op=9\/i.op=13\/i.op=15)(hat:i.op=13->0<=at_/\at_<v.values.length):
  ∃ h',K117_1 (af pg) ak [.hp L.rm 0,.hp q A.length,.ip (aa i.av),.ip (aa v.av),.int .i64 at_,.bool false] h= .ok (.int .i64 0) h'/\
   vQ L (if i.op=9 then{ p with frames:=fs++[{ f with stack:=f.stack.take (f.stack.length-1)++[Ap.dS (v.n== 0)] }] }
    else if i.op=13 then{ p with frames:=fs++[{ f with stack:=f.stack.take (f.stack.length-1)++[v.values[at_.toNat]!] }] }
    else{ p with frames:=fs++[{ f with stack:=f.stack.take (f.stack.length-1)++[cp (p.world.headD 0)] }],world:=p.world.tail,out:={ p.out with deeds:=p.out.deeds++[⟨i.a,v.n,p.world.headD 0⟩] } }) h':=by
 obtain⟨h2,tag2,sv2,rv,e2,F2,_,K2,_⟩:=t111 F 1 h1 hb 3 ZT;have R2:=H.unfocus hA (K2.mono fun k hk=>.inl hk) F2 hB;have hA2:=hA.keep K2 fun j _ _=>ZU
 have hl2:(f.stack.take (f.stack.length-1)).length<1000000000:=by simp;omega
 have e2':af pg 111 [.hp q A.length,.int .i64 1] h= .ok rv h2:=e2;have put:∀x:Val,∃h3,af pg 109 [.hp q A.length,x.av] h2= .ok (.tup []) h3/\vQ L { p with frames:=fs++[{ f with stack:=f.stack.take (f.stack.length-1)++[x] }] } h3:=fun x=>by
  obtain⟨h3,tag3,sv3,p1,p2,p3⟩:=t109 F2 x hl2;have R3:=R2.unfocus hA2 (p3.mono fun k hk=>ZU) p2 hB;exact⟨h3,p1,⟨tag3,_,_,_,_,_,R3⟩⟩
 generalize hc:K117_1 (af pg) ak [.hp L.rm 0,.hp q A.length,.ip (aa i.av),.ip (aa v.av),.int .i64 at_,.bool false] h=code;rw[K117_1]at hc;simp -implicitDefEqProofs only[am,ar,ai,Xs,Xy]at hc;rw[ap e2']at hc;simp -implicitDefEqProofs only[fJ0,vZ,ae,aH,ai]at hc;simp -implicitDefEqProofs only[bK,ae,aH,FA33_1,FA33_3,XQ,XK,LD3,LD23]at hc;by_cases h9:i.op=9
 ·obtain⟨h3,p1,R3⟩:=put (Ap.dS (v.n== 0));rw[Xv h9];refine⟨h3,?_,R3⟩;rw[<- hc];simp -implicitDefEqProofs only[h9,X0,XF,t110,aj];rw[ap p1];rfl
 have b9:(i.op== 9)=false:=by simp[h9]
 rw[Xr h9];simp -implicitDefEqProofs only[b9,Xs,Xy]at hc;by_cases h13:i.op=13
 ·obtain⟨k0,k1⟩:=hat h13;obtain⟨h3,p1,R3⟩:=put v.values[at_.toNat]!;rw[Xv h13];refine⟨h3,?_,R3⟩;rw[<- hc];have hix:=qG (l:=v.values) (n:=at_) k0 k1;have hld:∀x:Val,ax T 33 (.ip (aa x.av))=some x.av:=fun x=>by cases x;rfl
  simp -implicitDefEqProofs only[h13,X0,XF,hix,ae,hld];rw[ap p1];rfl
 have b13:(i.op== 13)=false:=by simp[h13]
 rw[Xr h13];simp -implicitDefEqProofs only[b13,Xs,Xy,jn,aJ,ae,FH82_0,FH39_3]at hc;have g1:bb T 24 (.hp L.rm (0+0+3)) h2= .ok (ints p.world) h2:=R2.get (T:=T) (t:=24) rfl rfl rfl;rw[ap g1]at hc;have hlen:bp T 24 (ints p.world)=some (.int .i64 p.world.length):=nh _;simp -implicitDefEqProofs only[hlen,ae,dq,ai,Xt]at hc;cases hw:p.world with
 |nil=>
  rw[Xr (by rw[hw];decide)]at hc;obtain⟨h3,p1,R3⟩:=xK R2 hA2 F2 hB i v 0 hl2 hd;simp_all
 | cons a w=>
  rw[Xv (by rw[hw];simp)]at hc;have hix:aA T 24 (ints p.world) (.int .i64 0)=some (.ip (aa (AV.int .i64 a))):=by
   have:=I9 (l:=p.world) (n:=0) ZT (by rw[hw];simp)
   rw[this,hw];rfl
  have hld:ax T 3 (.ip (aa (AV.int .i64 a)))=some (.int .i64 a):=rfl;have hsl:da T 24 (ints p.world) (some (.int .i64 1)) none none=some (ints w):=by
   have:=Go.Av.oA (T:=T) (t:=24) (e:=3) rfl rfl rfl (p.world.map (AV.int .i64)) (by
    simp_all[dn]) (n:=1) ZT ZU
   rw[hw]at this |-;exact this
  have s1:bS T 24 (.hp L.rm (0+0+3)) (ints w) h2= .ok (.tup []) (h2.set L.rm (fG L { p with world:=w,frames:=fs++[{ f with stack:=f.stack.take (f.stack.length-1) }] } sv (.hs q 0 (fs.length+1) 5 true) dv cv vc)):=by
   rw[bT (T:=T) (t:=24) rfl R2.row rfl (by rw[l8 R2.vo.len];decide) ZT];rfl
  have R4:=R2.setRow (p':={ p with world:=w,frames:=fs++[{ f with stack:=f.stack.take (f.stack.length-1) }] }) rfl rfl rfl rfl R2.so R2.vo;have K4:Kp tag2 tag2 (fun k=>k=0) h2 (h2.set L.rm (fG L { p with world:=w,frames:=fs++[{ f with stack:=f.stack.take (f.stack.length-1) }] } sv (.hs q 0 (fs.length+1) 5 true) dv cv vc)):=Xc R2.tm _;have F4:=F2.keep K4 ⟨ZS,ZS,ZS⟩;have hA4:=hA2.keep K4 fun j _ _=>ZU
  obtain⟨h3,p1,R3⟩:=xK R4 hA4 F4 hB i v a hl2 hd;have ea:aa v.av=[.int .i64 v.kind,.int .i64 v.n,strs v.names,vals v.values]:=bK v;rw[<- ea,ap g1]at hc;simp -implicitDefEqProofs only[hix,hld,ae]at hc;rw[ap g1]at hc;simp -implicitDefEqProofs only[hsl,ae]at hc
  grind [ap]
theorem t117{L:MLay}{tag:Nat->Nat}{sv dv cv:AV}{vc:List AV}{p:Proc}{h:Hp}{q:Nat}{fs:List Frm}{f:Frm}{A B:List AV}{lv stv:AV}(H:MR L tag sv (.hs q 0 (fs.length+1) 5 true) dv cv vc p h)(hA:eh tag h 0 fs A)(F:FrAt tag h q A B fs.length f lv stv)(hB:B.all ay=true)(i:Ins)(h1:1<=f.stack.length)(hb:f.stack.length<1000000000)(hd:p.out.deeds.length<1000000)(hop:i.op=9\/i.op=13\/i.op=15)(hv:f.stack[f.stack.length-1]!.names.length=f.stack[f.stack.length-1]!.values.length)(hn:f.stack[f.stack.length-1]!.names.length<=1000000):
  match mW p fs f i with
  |.ok p'=>∃h',af pg 117 [.hp L.rm 0,.hp q A.length,i.av] h= .ok (.int .i64 0) h'/\vQ L p' h'
  |.error e=>af pg 117 [.hp L.rm 0,.hp q A.length,i.av] h= .ok (.int .i64 e) h:=by
 obtain⟨w,e0,_,e3⟩:=t112 F 1 h1 hb;obtain⟨rs,rests,rfl,hrs,_⟩:=e3 ZT;have e0':af pg 112 [.hp q A.length,.int .i64 1] h= .ok (.hs rs ((f.stack.length-1)*4) 1 4 true) h:=e0;have i0:aA T 23 (.hs rs ((f.stack.length-1)*4) 1 4 true) (.int .i64 0)=some (.hp rs ((f.stack.length-1+0)*4)):=(jo hrs h1 (j:=0) ZT).1;have l0:=(jo hrs h1 (j:=0) ZT).2;rw[show f.stack.length-1+0=f.stack.length-1 by omega]at i0 l0;have go:=fun(v:Val) (at_:Int)=>IQ H hA F hB i v at_ h1 hb hd hop;have e9:i.op=9->mW p fs f i=if f.stack[f.stack.length-1]!.kind=1 then .ok { p with frames:=fs++[{ f with stack:=f.stack.take (f.stack.length-1)++[Ap.dS (f.stack[f.stack.length-1]!.n== 0)] }] }else .error 13:=fun h=>by simp[mW,h]
 have e13:i.op=13->mW p fs f i=match gO f.stack[f.stack.length-1]!.names f.stack[f.stack.length-1]!.values i.s with
   |some x=>if f.stack[f.stack.length-1]!.kind=2 then .ok { p with frames:=fs++[{ f with stack:=f.stack.take (f.stack.length-1)++[x] }] }else .error 13
   |none=>.error 13:=fun h=>by simp[mW,h];rfl
 have e15:i.op=15->mW p fs f i=if f.stack[f.stack.length-1]!.kind=0 then .ok { p with frames:=fs++[{ f with stack:=f.stack.take (f.stack.length-1)++[cp (p.world.headD 0)] }],world:=p.world.tail,out:={ p.out with deeds:=p.out.deeds++[⟨i.a,f.stack[f.stack.length-1]!.n,p.world.headD 0⟩] } }else .error 13:=fun h=>by simp[mW,h]
 generalize f.stack[f.stack.length-1]! = v at hv hn l0 e9 e13 e15;generalize hc:af pg 117 [.hp L.rm 0,.hp q A.length,i.av] h=code;rw[C117,S117,ap e0',i0,ae,ap l0]at hc;simp -implicitDefEqProofs only[bc (dW v),aj,aI,fJ2,Td,ae]at hc;have fa2:ah T 33 (.ip (aa v.av)) 2=some (.ip [strs v.names,vals v.values]):=by rw[bK];rfl
 have la2:ax T 31 (.ip [strs v.names,vals v.values])=some (strs v.names):=rfl;have fa0:ah T 33 (.ip (aa v.av)) 0=some (.ip (aa v.av)):=by rw[bK];rfl
 have la0:ax T 3 (.ip (aa v.av))=some (.int .i64 v.kind):=by rw[bK];rfl
 simp -implicitDefEqProofs only[fa2,la2,fa0,la0,tv159 v.names i.s hn,ae,aj,jn,fJ0,vZ,aH,fY,aB,FZ]at hc;have bad:∀b:Bool,b=true->K117_1 (af pg) ak [.hp L.rm 0,.hp q A.length,.ip (aa i.av),.ip (aa v.av),.int .i64 (aY (fun y=>y== i.s) v.names 0),.bool b] h= .ok (.int .i64 13) h:=by
  rintro _ rfl;rw[K117_1];simp -implicitDefEqProofs only[am,ar,ai,XF];rfl
 rcases hop with h9|h13|h15
 ·rw[e9 h9];by_cases hk:v.kind=1
  ·rw[Xv hk];rw[show (i.op== 9&&v.kind != 1||(i.op== 15&&v.kind != 0||i.op== 13&&(v.kind != 2||decide (aY (fun y=>y== i.s) v.names 0<0))))=false by simp[h9,hk]]at hc;obtain⟨h',g1,g2⟩:=go v (aY (fun y=>y== i.s) v.names 0) (fun h=>ZS)
   grind
  grind
 ·rw[e13 h13];rcases wR v.names v.values i.s 0 hv (ZT)with⟨g1,g2⟩|⟨k,k1,k2,k3⟩
  ·grind
  ·rw[k3];by_cases hk:v.kind=2
   ·simp only[Xv hk];rw[show (i.op== 9&&v.kind != 1||(i.op== 15&&v.kind != 0||i.op== 13&&(v.kind != 2||decide (aY (fun y=>y== i.s) v.names 0<0))))=false by grind]at hc;obtain⟨h',g1,g2⟩:=go v (aY (fun y=>y== i.s) v.names 0) (fun h=>by rw[k2];omega)
    grind
   grind
 ·rw[e15 h15];by_cases hk:v.kind=0
  ·rw[Xv hk];rw[show (i.op== 9&&v.kind != 1||(i.op== 15&&v.kind != 0||i.op== 13&&(v.kind != 2||decide (aY (fun y=>y== i.s) v.names 0<0))))=false by simp[h15,hk]]at hc;obtain⟨h',g1,g2⟩:=go v (aY (fun y=>y== i.s) v.names 0) (fun h=>ZS)
   grind
  grind
section
variable (x:Fnc)
theorem fX1:ah T 77 (.ip (aa x.av)) 1=some (.ip ((aa x.av).drop 1)):=rfl
theorem fX2:ah T 77 (.ip (aa x.av)) 2=some (.ip ((aa x.av).drop 2)):=rfl
theorem Ws:ax T 4 (.ip ((aa x.av).drop 1))=some (.bool x.pub):=rfl
theorem Rf:ah T 75 (.ip ((aa x.av).drop 2)) 0=some (.ip (((aa x.av).drop 2).drop 0)):=rfl
theorem Nl:ah T 75 (.ip ((aa x.av).drop 2)) 1=some (.ip (((aa x.av).drop 2).drop 1)):=rfl
theorem Nm:ah T 75 (.ip ((aa x.av).drop 2)) 2=some (.ip (((aa x.av).drop 2).drop 2)):=rfl
theorem Sg:ax T 9 (.ip (((aa x.av).drop 2).drop 0))=some (.str x.cod.func):=rfl
theorem NC:ax T 3 (.ip (((aa x.av).drop 2).drop 1))=some (.int .i64 x.cod.params):=rfl
theorem ND:ax T 3 (.ip (((aa x.av).drop 2).drop 2))=some (.int .i64 x.cod.locals):=rfl
end
def dk.shape{tag:Nat->Nat}{h:Hp}{k:Nat}{l:List Val}{v:AV}(H:dk tag k h l v):v= .hn\/v= .he\/∃r,v= .hs r 0 l.length 4 true:=by
 rcases H with⟨_,h,_⟩|⟨r,_,_,h,_⟩
 all_goals grind
def Gw{tag:Nat->Nat}{h:Hp}{k:Nat}{l:List Val}(f:Frm){lv:AV}(hf:f.pc=0)(H:dk tag k h l lv):cG T true 46 [(0,.str f.mod),(1,.str f.fn),(3,lv)]=some (.agg (iQ f lv .hn)):=by
 unfold iQ;rw[hf];rcases dk.shape H with rfl|rfl|⟨r,rfl⟩<;>rfl
theorem EL(f:Frm)(lv sv:AV):aQ T 29 1 [(0,.agg (iQ f lv sv))]=some (.sl [.agg (iQ f lv sv)]):=rfl
def EJ{tag:Nat->Nat}{h:Hp}{k:Nat}{l:List Val}(a b:aW){av:AV}(H:dk tag k h l av):cG T false 126 [(0,.str a),(1,.str b),(2,av)]=some (.agg [.str a,.str b,av]):=by
 rcases dk.shape H with rfl|rfl|⟨r,rfl⟩<;>rfl
theorem BN(a b:aW)(av:AV):aQ T 35 1 [(0,.agg [.str a,.str b,av])]=some (.sl [.agg [.str a,.str b,av]]):=rfl
def Gy(v:Val):aQ T 23 1 [(0,v.av)]=some (.sl [v.av]):=by cases v;rfl
def uH{Q:StP}{L:MLay}{sv fv dv cv:AV}{vc:List AV}{p:Proc}(mod:aW)(x:Fnc)(hfb:p.frames.length<1000000)(hlb:x.cod.locals<=1000000):∀(m:Nat)(args:List Val)(tag:Nat->Nat)(h:Hp)(av:AV),MRG Q L tag sv fv dv cv vc p h->dk tag (11+3*p.frames.length) h args av->
  x.cod.locals.toNat-args.length=m->args.length<=1000000->
  ∃h',ak (L24_0 (af pg) ak) [.hp L.rm 0,.str mod,av,.ip (aa x.av)] h= .ok (.tup []) h'/\O4 Q L sv { p with frames:=p.frames++[⟨mod,x.cod.func,0,args++List.replicate m (cp 0),[]⟩] } h'
 | 0,args,tag,h,av,H,V,hm,hb=>by
  have h1:¬((args.length:Int)<x.cod.locals):=ZS
  have g1:bb T 29 (.hp L.rm (0+0+2)) h= .ok fv h:=H.get (T:=T) (t:=29) rfl rfl rfl;obtain⟨h2,tag2,fv2,e2,_,o1,o2,r2,R2⟩:=H.frame (T:=T) (t:=29) (e:=46) rfl rfl rfl rfl rfl ZT ⟨mod,x.cod.func,0,args,[]⟩ V (stv:=.hn) (.inl ⟨rfl,.inl rfl,rfl⟩) (XM (XB _ (show p.frames.length+1<=1000000 by omega)) ZT);have s1:bS T 29 (.hp L.rm (0+0+2)) fv2 h2= .ok (.tup []) (h2.set L.rm (fG L p sv fv2 dv cv vc)):=by
   rw[bT (T:=T) (t:=29) rfl r2 o1 (by rw[l8 H.vo.len];decide) ZT,o2,NM]
  have bf:=Gw ⟨mod,x.cod.func,0,args,[]⟩ rfl V;rw[List.replicate_zero,XS];refine⟨_,?_,⟨tag2,_,_,_,_,R2⟩⟩;rw[FL24_0];simp -implicitDefEqProofs only[L24_0,am,ar,dk.len V,ae,fX2,Nm,ND,aB,ai,Xt,Xr h1,aJ,FH82_0,FH39_2];rw[ap g1];simp -implicitDefEqProofs only[fX2,Rf,Sg,ae];rw[bf,ae,EL,ae,ap e2,ap s1];rfl
 | m+1,args,tag,h,av,H,V,hm,hb=>by
  have h1:(args.length:Int)<x.cod.locals:=ZS
  obtain⟨cs,tag2,rfl,hcl,happ,K,_,HS⟩:=gb.push (T:=T) (t:=23) (e:=33) rfl rfl rfl rfl ZT rfl ZT V (dW (cp 0)) (XM (XB _ (show args.length+1<=10000000 by omega)) ZT);have H2:=H.keep K fun k hk=>.inl hk;have V2:dk tag2 (11+3*p.frames.length) (oN av h++[aw args++aa (cp 0).av]) (args++[cp 0]) (.hs h.length 0 (args.length+1) 4 true):=by
   have:=gb.mono (c':=fun cs=>cs=aw (args++[cp 0])) (fun cs h=>by rw[h,kA];simp[aw]) HS
   simpa [dk]using this
  obtain⟨h',k1,k2⟩:=uH mod x hfb hlb m (args++[cp 0]) tag2 _ _ H2 V2 ZX ZX;rw[Ye,show[cp 0]++List.replicate m (cp 0)=List.replicate (m+1) (cp 0)from rfl]at k2;refine⟨h',?_,k2⟩;rw[FL24_0];simp -implicitDefEqProofs only[L24_0,am,ar,dk.len V,ae,fX2,Nm,ND,aB,ai,Xt,Xv h1,t49,aj,Gy];rw[ap happ];exact k1
def t24{Q:StP}{L:MLay}{tag:Nat->Nat}{sv fv dv cv:AV}{vc:List AV}{p:Proc}{h:Hp}(H:MRG Q L tag sv fv dv cv vc p h)(mod:aW)(x:Fnc){args:List Val}{av:AV}(V:dk tag (11+3*p.frames.length) h args av)(hfb:p.frames.length<1000000)(hlb:x.cod.locals<=1000000)(hab:args.length<=1000000)(hcb:p.out.calls.length<1000000):
  ∃h',af pg 24 [.hp L.rm 0,.str mod,x.av,av] h= .ok (.tup []) h'/\O4 Q L sv (F9 p p.frames mod x args) h':=by
 have go:∀ {tag:Nat->Nat} {sv fv dv cv:AV} {vc:List AV} {p:Proc} {h:Hp},MRG Q L tag sv fv dv cv vc p h->dk tag (11+3*p.frames.length) h args av->p.frames.length<1000000->
   ∃h',K24_0 (af pg) ak [.hp L.rm 0,.str mod,av,.ip (aa x.av)] h= .ok (.tup []) h'/\O4 Q L sv { p with frames:=p.frames++[⟨mod,x.cod.func,0,args++List.replicate (x.cod.locals.toNat-args.length) (cp 0),[]⟩] } h':=fun H V hfb=>by
  obtain⟨h',k1,k2⟩:=uH mod x hfb hlb _ args _ _ av H V rfl hab;exact⟨h',k1,k2⟩
 generalize hc:af pg 24 [.hp L.rm 0,.str mod,x.av,av] h=code;rw[C24,S24]at hc;simp -implicitDefEqProofs only[jn,fX1,Ws,ae,ai]at hc;unfold F9;cases hp:x.pub with
 |false=>
  rw[hp]at hc;simp only[Xs,Xy]at hc |-;obtain⟨h',k1,k2⟩:=go H V hfb;exact⟨h',hc.symm.trans k1,k2⟩
 | true=>
  rw[hp]at hc;simp only[XF]at hc |-;have g1:bb T 35 (.hp L.rm (0+0+4+6)) h= .ok cv h:=H.get (T:=T) (t:=35) rfl rfl (ol H.vo.len 1);obtain⟨h1,tag1,rv,e1,K1,V1⟩:=tJ (T:=T) (t:=23) (e:=33) rfl rfl rfl rfl rfl ZT (af pg) V (XM (XB _ hab) ZT) 4;have H1:=H.keep K1 fun k hk=>hk.elim;obtain⟨h2,tag2,cv2,e2,K2,o1,o2,r2,R2⟩:=H1.call (T:=T) (t:=35) (e:=126) rfl rfl rfl rfl rfl ZT ⟨mod,x.cod.func,args⟩ (.inr V1) (XM (XB _ (show p.out.calls.length+1<=1000000 by omega)) ZT);have s1:bS T 35 (.hp L.rm (0+0+4+6)) cv2 h2= .ok (.tup []) (h2.set L.rm (fG L p sv fv dv cv2 vc)):=by
   rw[bT (T:=T) (t:=35) rfl r2 o1 (by rw[l8 H.vo.len];decide) ZT,o2,J8 H.vo.len]
  have K3:Kp tag2 tag2 (fun k=>k=0) h2 (h2.set L.rm (fG L p sv fv dv cv2 vc)):=Xc R2.tm _;have V3:=((V.keep K1 id).keep K2 ZS).keep K3 ZS;obtain⟨h',k1,k2⟩:=go R2 V3 hfb;refine⟨h',?_,k2⟩;rw[<- hc];simp -implicitDefEqProofs only[aJ,ae,FH82_0,FH39_4,FH37_3];rw[ap g1];simp -implicitDefEqProofs only[fX2,Rf,Sg,ae];rw[ap ((xP av h).trans e1),EJ _ _ V1,ae,BN,ae,ap e2,ap s1];exact k1
def zH{α:Type}(n m b:Bool)(k:AV->M α):
  au (aK (.bool n) false 1 (ao [.bool m])) (fun v17=>au (aK (ab v17 0) true 1 (ao [.bool b])) fun v21=>au (aK (.bool n) false 1 (au (bP (gx (ab v17 0) (ab v21 0) (.bool false))) fun v22=>ao [v22])) fun v23=>
   au (bP (gx (.bool n) (.bool true) (ab v23 0))) k)=k (.bool (n||m&&b)):=by
 simp_all
theorem wE(a b:aW):cG T false 84 [(0,.str a),(1,.str b)]=some (.agg [.str a,.str b]):=rfl
theorem Sn(x:Fnc):bR 7 x.av=true:=rfl
theorem Jk{L:MLay}{tag:Nat->Nat}{sv dv cv:AV}{vc:List AV}{p:Proc}{h:Hp}{q:Nat}{fs:List Frm}{f:Frm}{A B:List AV}{lv stv:AV}(H:MR L tag sv (.hs q 0 (fs.length+1) 5 true) dv cv vc p h)(M:MapOk T 79 80 L p.mods)(hA:eh tag h 0 fs A)(F:FrAt tag h q A B fs.length f lv stv)(hB:B.all ay=true)(i:Ins)(mod:aW)(hb:f.stack.length<=1000000)(hcb:p.out.calls.length<1000000)(ha:0<=i.a/\i.a<=f.stack.length)(hlb:∀x,fj p.mods mod i.s=some x->x.cod.locals<=1000000):
  match (match fj p.mods mod i.s with
   |none=>(.error 12:Except Int Proc)
   |some x=>if i.m≠[]/\x.pub=false then .error 12
    else if x.cod.params≠i.a then .error 13
    else if 60<=fs.length+1 then .error 6
    else .ok (F9 p (fs++[{ f with stack:=f.stack.take (f.stack.length-i.a.toNat) }]) mod x (f.stack.drop (f.stack.length-i.a.toNat))))with
  |.ok p'=>∃h',K115_0 (af pg) ak [.hp L.rm 0,.hp q A.length,.ip (aa i.av),.str mod] h= .ok (.int .i64 0) h'/\vQ L p' h'
  |.error e=>K115_0 (af pg) ak [.hp L.rm 0,.hp q A.length,.ip (aa i.av),.str mod] h= .ok (.int .i64 e) h:=by
 have g1:bb T 80 (.hp L.rm (0+14)) h= .ok (.mp L.rf) h:=H.get (T:=T) (t:=80) rfl rfl (ol H.vo.len 5);have g2:bb T 29 (.hp L.rm (0+0+2)) h= .ok (.hs q 0 (fs.length+1) 5 true) h:=H.get (T:=T) (t:=29) rfl rfl rfl;have hlF:bp T 29 (.hs q 0 (fs.length+1) 5 true)=some (.int .i64 ((fs.length+1:Nat):Int)):=rfl;have lk:=M.fn h H.rf mod i.s;generalize hc:K115_0 (af pg) ak [.hp L.rm 0,.hp q A.length,.ip (aa i.av),.str mod] h=code;rw[K115_0]at hc;simp -implicitDefEqProofs only[am,ar,aJ,ae,FH82_2]at hc;rw[ap g1]at hc;simp -implicitDefEqProofs only[fJ2,Td,ae,wE]at hc;rw[ap lk]at hc;cases ho:fj p.mods mod i.s with
 |none=>
  rw[ho]at hc;have ok7:bR 7 (kM none)=true:=rfl;simp -implicitDefEqProofs only[eN,List.getElem?_cons_zero,Yb,ae,bc ok7,aj,Zb,bi,X3]at hc;rw[<- hc];cases h0:i.m== []<;>simp[fJ3,R6,tg,h0,aK,gv]<;>rfl
 | some x=>
  rw[ho]at hc;simp -implicitDefEqProofs only[kM,eN,List.getElem?_cons_zero,Yb,ae,bc (Sn x),aj,aI,Zx,bi,XR,fJ3,R6,tg,fX1,Ws,zH,ai,Bool.false_or]at hc;by_cases hcond:i.m≠[]/\x.pub=false
  ·simp only[Xv hcond];rw[show (!(i.m== [])&&!x.pub)=true by grind]at hc;simp only[XF]at hc;exact hc.symm
  simp only[Xr hcond];rw[show (!(i.m== [])&&!x.pub)=false by
   grind]at hc
  simp -implicitDefEqProofs only[Xs,Xy,fX2,Nl,NC,fJ1,Fj,ae,fY,ai]at hc;by_cases hpar:x.cod.params≠i.a
  ·simp only[Xv hpar];rw[show (x.cod.params != i.a)=true by simp[hpar]]at hc;simp only[XF]at hc;exact hc.symm
  simp only[Xr hpar];rw[show (x.cod.params != i.a)=false by grind]at hc;simp -implicitDefEqProofs only[Xs,Xy,aJ,ae,FH82_0,FH39_2]at hc;rw[ap g2]at hc;simp -implicitDefEqProofs only[hlF,ae,jq,ai,Xt]at hc;by_cases h60:60<=fs.length+1
  ·simp only[Xv h60];rw[Xv ZS]at hc;exact hc.symm
  simp only[Xr h60];rw[Xr ZS]at hc;have lF:ax T 77 (.ip (aa x.av))=some x.av:=rfl;have hia:((i.a.toNat:Nat):Int)=i.a:=ZS
  obtain⟨h2,tag2,sv2,rv,e2,F2,V2,K2,_⟩:=t111 F i.a.toNat ZS ZS (11+3*(fs.length+1)) ZS;rw[hia]at e2;have R2:=H.unfocus hA (K2.mono fun k hk=>.inl hk) F2 hB;have V2':dk tag2 (11+3*(fs++[{ f with stack:=f.stack.take (f.stack.length-i.a.toNat) }]).length) h2 (f.stack.drop (f.stack.length-i.a.toNat)) rv:=by
   rw[XL,List.length_singleton];exact V2
  obtain⟨h3,e3,R3⟩:=t24 (Q:=V0) R2 mod x V2' ZX (hlb x ho) ZX hcb;refine⟨h3,?_,R3.x⟩;rw[<- hc];simp -implicitDefEqProofs only[lF,ae];rw[ap e2,ap e3];rfl
theorem t115{L:MLay}{tag:Nat->Nat}{sv dv cv:AV}{vc:List AV}{p:Proc}{h:Hp}{q:Nat}{fs:List Frm}{f:Frm}{A B:List AV}{lv stv:AV}(H:MR L tag sv (.hs q 0 (fs.length+1) 5 true) dv cv vc p h)(M:MapOk T 79 80 L p.mods)(hA:eh tag h 0 fs A)(F:FrAt tag h q A B fs.length f lv stv)(hB:B.all ay=true)(i:Ins)(hop:i.op=14)(hb:f.stack.length<=1000000)(hcb:p.out.calls.length<1000000)(ha:0<=i.a/\i.a<=f.stack.length)(hlb:∀s x,fj p.mods s i.s=some x->x.cod.locals<=1000000):
  match mW p fs f i with
  |.ok p'=>∃h',af pg 115 [.hp L.rm 0,.hp q A.length,i.av] h= .ok (.int .i64 0) h'/\vQ L p' h'
  |.error e=>af pg 115 [.hp L.rm 0,.hp q A.length,i.av] h= .ok (.int .i64 e) h:=by
 have g3:bb T 9 (.hp q (A.length+0)) h= .ok (.str f.mod) h:=F.get (T:=T) (t:=9) rfl rfl (k:=0) rfl;have hcode:af pg 115 [.hp L.rm 0,.hp q A.length,i.av] h=K115_0 (af pg) ak [.hp L.rm 0,.hp q A.length,.ip (aa i.av),.str (wb i.m f.mod)] h:=by
  rw[C115,S115];have se:cF T .eql 9 (.str i.m) (.str [])=some (.bool (i.m== [])):=yZ ..;simp -implicitDefEqProofs only[fJ3,R6,ae,jn,se,ai];unfold wb;by_cases hm:i.m=[]
  ·rw[Xv hm,Xv (by rw[hm];rfl)];simp -implicitDefEqProofs only[aJ,ae,FH46_0];rw[ap g3]
  ·grind
 rw[hcode];have e:mW p fs f i=match fj p.mods (wb i.m f.mod) i.s with
   |none=>(.error 12:Except Int Proc)
   |some x=>if i.m≠[]/\x.pub=false then .error 12
    else if x.cod.params≠i.a then .error 13
    else if 60<=fs.length+1 then .error 6
    else .ok (F9 p (fs++[{ f with stack:=f.stack.take (f.stack.length-i.a.toNat) }]) (wb i.m f.mod) x (f.stack.drop (f.stack.length-i.a.toNat))):=by
  simp only[mW,hop];rfl
 rw[e];exact Jk H M hA F hB i _ hb hcb ha (hlb _)
def Bw(L:MLay)(q:Nat)(A:List AV)(i:Ins)(h:Hp)(p':Proc):Prop:=∃h',af pg 55 [.hp L.rm 0,.hp q A.length,i.av] h= .ok (.int .i64 0) h'/\vQ L p' h'
section
variable {L:MLay} {tag:Nat->Nat} {sv dv cv:AV} {vc:List AV} {p:Proc} {h:Hp} {q:Nat} {fs:List Frm} {f:Frm} {A B:List AV} {lv stv:AV}
theorem s9(H:MR L tag sv (.hs q 0 (fs.length+1) 5 true) dv cv vc p h)(hA:eh tag h 0 fs A)(F:FrAt tag h q A B fs.length f lv stv)(hB:B.all ay=true)(hb:f.stack.length<1000000000)(x:Val):
  ∃h',af pg 109 [.hp q A.length,x.av] h= .ok (.tup []) h'/\vQ L { p with frames:=fs++[{ f with stack:=f.stack++[x] }] } h':=by
 obtain⟨h3,tag3,sv3,p1,p2,p3⟩:=t109 F x hb;exact⟨h3,p1,⟨tag3,_,_,_,_,_,H.unfocus hA (p3.mono fun k hk=>ZU) p2 hB⟩⟩
theorem VT(H:MR L tag sv (.hs q 0 (fs.length+1) 5 true) dv cv vc p h)(hA:eh tag h 0 fs A)(F:FrAt tag h q A B fs.length f lv stv)(hB:B.all ay=true)(hb:f.stack.length<1000000000)(i:Ins)(hop:i.op=0):Bw L q A i h { p with frames:=fs++[{ f with stack:=f.stack++[cp i.a] }] }:=by
 obtain⟨h',g1,g2⟩:=s9 H hA F hB hb (cp i.a);refine⟨h',?_,g2⟩;rw[C55,S55,fJ0,ae,vZ,ae,hop,aH,ae,show ((0:Int)== 0)=true from rfl,ai,Xv rfl,fJ1,ae,Fj,ae,t49,aj,ap g1];rfl
theorem VU(H:MR L tag sv (.hs q 0 (fs.length+1) 5 true) dv cv vc p h)(hA:eh tag h 0 fs A)(F:FrAt tag h q A B fs.length f lv stv)(hB:B.all ay=true)(hb:f.stack.length<1000000000)(i:Ins)(hop:i.op=1):Bw L q A i h { p with frames:=fs++[{ f with stack:=f.stack++[Ap.dS (i.a== 1)] }] }:=by
 obtain⟨h',g1,g2⟩:=s9 H hA F hB hb (Ap.dS (i.a== 1));refine⟨h',?_,g2⟩;rw[C55,S55,fJ0,ae,vZ,ae,hop,aH,ae,show ((1:Int)== 0)=false from rfl,ai,Xr ZT,aH,ae,show ((1:Int)== 1)=true from rfl,ai,Xv rfl,fJ1,ae,Fj,ae,aH,ae,t110,aj,ap g1];rfl
theorem oi{k:Nat}{l:List Val}{v:AV}(V:dk tag k h l v)(hne:0<l.length):∃r rest,v= .hs r 0 l.length 4 true/\tag r=k/\h[r]? = some (aw l++rest)/\(aw l++rest).all ay=true:=by
 rcases V with⟨h0,_⟩|⟨r,cs,rest,e,hr,hcs,_,_,hok,rfl⟩
 all_goals grind
theorem VV(H:MR L tag sv (.hs q 0 (fs.length+1) 5 true) dv cv vc p h)(hA:eh tag h 0 fs A)(F:FrAt tag h q A B fs.length f lv stv)(hB:B.all ay=true)(hb:f.stack.length<1000000000)(i:Ins)(hop:i.op=2)(ha:0<=i.a/\i.a<f.locals.length):Bw L q A i h { p with frames:=fs++[{ f with stack:=f.stack++[f.locals[i.a.toNat]!] }] }:=by
 obtain⟨h',g1,g2⟩:=s9 H hA F hB hb f.locals[i.a.toNat]!;obtain⟨r,rest,rfl,hr,hcs,_⟩:=oi F.lo ZS;have hal:i.a.toNat<f.locals.length:=ZS
 have gl:bb T 23 (.hp q (A.length+3)) h= .ok (.hs r 0 f.locals.length 4 true) h:=F.get (T:=T) (t:=23) rfl rfl (k:=3) rfl;have gv:=nJ (T:=T) (t:=33) rfl rfl rfl hcs hal;refine⟨h',?_,g2⟩;rw[C55,S55,fJ0,ae,vZ,ae,hop,aH,ae,show ((2:Int)== 0)=false from rfl,ai,Xr ZT,aH,ae,show ((2:Int)== 1)=false from rfl,ai,Xr ZT,aH,ae,show ((2:Int)== 2)=true from rfl,ai,Xv rfl,
  aJ,ae,FH46_3,ae,ap gl,fJ1,ae,Fj,ae,RJ r _ i.a ha.1 ha.2,ae,XI,ap gv,<- Xx f.locals _ hal,ap g1]
 rfl
end
section
variable {L:MLay} {tag:Nat->Nat} {sv dv cv:AV} {vc:List AV} {p:Proc} {h:Hp} {q:Nat} {fs:List Frm} {f:Frm} {A B:List AV} {lv stv:AV}
theorem CK(F:FrAt tag h q A B fs.length f lv stv)(a:Int):∃h',bS T 3 (.hp q (A.length+2)) (.int .i64 a) h= .ok (.tup []) h'/\FrAt tag h' q A B fs.length { f with pc:=a } lv stv/\Kp tag tag (fun k=>k=7) h h':=by
 have hlt:q<h.length:=(XA.1 F.row).1;have K:Kp tag tag (fun k=>k=7) h (h.set q (A++iQ { f with pc:=a } lv stv++B)):=Xc F.tq _;refine⟨_,?_,⟨XV hlt,F.tq,F.lo.keep K ZS,F.st.keep K ZS⟩,K⟩;rw[bT (T:=T) (t:=3) rfl F.row rfl (by show _+1<=_;simp[iQ];omega) ZT];rw[set_mid (D:=iQ { f with pc:=a } lv stv) (by simp[iQ]) rfl]
theorem Su(H:MR L tag sv (.hs q 0 (fs.length+1) 5 true) dv cv vc p h)(hA:eh tag h 0 fs A)(F:FrAt tag h q A B fs.length f lv stv)(hB:B.all ay=true)(i:Ins)(hop:i.op=10):Bw L q A i h { p with frames:=fs++[{ f with pc:=i.a }] }:=by
 obtain⟨h',g1,F2,K⟩:=CK F i.a;refine⟨h',?_,⟨tag,_,_,_,_,_,H.unfocus hA (K.mono fun k hk=>.inl hk) F2 hB⟩⟩;rw[C55,S55,fJ0,ae,vZ,ae,hop,aH,ae,show ((10:Int)== 0)=false from rfl,ai,Xr ZT,aH,ae,show ((10:Int)== 1)=false from rfl,ai,Xr ZT,aH,ae,show ((10:Int)== 2)=false from rfl,ai,Xr ZT,
  aH,ae,show ((10:Int)== 3)=false from rfl,ai,Xr ZT,aH,ae,show ((10:Int)== 19)=false from rfl,ai,Xr ZT,aH,ae,show ((10:Int)== 10)=true from rfl,ai,Xv rfl,
  fJ1,ae,Fj,ae,aJ,ae,FH46_2,ae,ap g1]
 rfl
theorem Sx(H:MR L tag sv (.hs q 0 (fs.length+1) 5 true) dv cv vc p h)(hA:eh tag h 0 fs A)(F:FrAt tag h q A B fs.length f lv stv)(hB:B.all ay=true)(hb:f.stack.length<1000000000)(h1:1<=f.stack.length)(i:Ins)(hop:i.op=19):Bw L q A i h { p with frames:=fs++[{ f with stack:=f.stack.take (f.stack.length-1) }] }:=by
 obtain⟨h2,tag2,sv2,rv,e2,F2,_,K2,_⟩:=t111 F 1 h1 hb 3 ZT;have e2':af pg 111 [.hp q A.length,.int .i64 1] h= .ok rv h2:=e2;refine⟨h2,?_,⟨tag2,_,_,_,_,_,H.unfocus hA (K2.mono fun k hk=>.inl hk) F2 hB⟩⟩;rw[C55,S55,fJ0,ae,vZ,ae,hop,aH,ae,show ((19:Int)== 0)=false from rfl,ai,Xr ZT,aH,ae,show ((19:Int)== 1)=false from rfl,ai,Xr ZT,aH,ae,show ((19:Int)== 2)=false from rfl,ai,Xr ZT,
  aH,ae,show ((19:Int)== 3)=false from rfl,ai,Xr ZT,aH,ae,show ((19:Int)== 19)=true from rfl,ai,Xv rfl,ap e2']
 rfl
theorem VW(H:MR L tag sv (.hs q 0 (fs.length+1) 5 true) dv cv vc p h)(hA:eh tag h 0 fs A)(F:FrAt tag h q A B fs.length f lv stv)(hB:B.all ay=true)(hb:f.stack.length<1000000000)(h1:1<=f.stack.length)(i:Ins)(hop:i.op=3)(ha:0<=i.a/\i.a<f.locals.length):
  Bw L q A i h { p with frames:=fs++[{ f with locals:=f.locals.set i.a.toNat f.stack[f.stack.length-1]!,stack:=f.stack.take (f.stack.length-1) }] }:=by
 have hA5:A.length % 5=0:=by rw[hA.len];omega
 have gl:bb T 23 (.hp q (A.length+3)) h= .ok lv h:=F.get (T:=T) (t:=23) rfl rfl (k:=3) rfl;have gm:fP T 5 3 23 (.hp q (A.length+3)) h= .ok lv h:=by
  have hb3:(Nat.beq ((A.length+3) % 5) 3)=true:=by rw[show (A.length+3) % 5=3 by omega];rfl
  show (bif Nat.beq ((A.length+3) % 5) 3&&true then bb T 23 (.hp q (A.length+3)) h else .fail)=_;rw[hb3];exact gl
 obtain⟨h2,tag2,sv2,rv,e2,F2,V2,K2,ext,hh2⟩:=t111 F 1 h1 hb 3 ZT;have e2':iu 5 3 (af pg 111 [.hp q A.length,.int .i64 1]) h= .ok rv h2:=Hq e2 (by rw[hh2];exact Ct F.row hA5 rfl rfl rfl);have hd:f.stack.drop (f.stack.length-1)=[f.stack[f.stack.length-1]!]:=by
  rw[List.drop_eq_getElem_cons ZS,List.drop_of_length_le ZS,Xx f.stack _ ZS]
 rw[hd]at V2;generalize f.stack[f.stack.length-1]! = v at V2 |-;obtain⟨rr,restr,rfl,_,hrr,_⟩:=oi V2 ZV;have ix0:aA T 23 (.hs rr 0 [v].length 4 true) (.int .i64 0)=some (.hp rr (0+(0:Int).toNat*4)):=RJ rr 1 0 ZT ZT;have lv0:bb T 33 (.hp rr (0+(0:Int).toNat*4)) h2= .ok v.av h2:=nJ (T:=T) (t:=33) rfl rfl rfl hrr (j:=0) ZV;obtain⟨r,rest,rfl,hr,hcs,hok⟩:=oi F2.lo (show 0<f.locals.length by omega);have hal:i.a.toNat<f.locals.length:=ZS
 have hcs':h2[r]? = some (aw f.locals++rest):=hcs;have hset:setCells (aw f.locals++rest) (i.a.toNat*4) (aa v.av)=aw (f.locals.set i.a.toNat v)++rest:=by
  rw[qt (by rw[aX];simp;omega),kB hal]
 have s1:bS T 33 (.hp r (0+i.a.toNat*4)) v.av h2= .ok (.tup []) (h2.set r (aw (f.locals.set i.a.toNat v)++rest)):=by
  rw[XI,bT (T:=T) (t:=33) rfl hcs' ZW (by grind [aX]) ZT,hset]
 have hrl:r<h2.length:=(XA.1 hcs').1;have K3:Kp tag2 tag2 (fun k=>k=11+3*fs.length) h2 (h2.set r (aw (f.locals.set i.a.toNat v)++rest)):=Xc hr _;have F3:FrAt tag2 (h2.set r (aw (f.locals.set i.a.toNat v)++rest)) q A B fs.length { f with locals:=f.locals.set i.a.toNat v,stack:=f.stack.take (f.stack.length-1) } (.hs r 0 f.locals.length 4 true) sv2:=by
  refine⟨(K3 _ _ F2.row (by rw[F2.tq];omega)).1,F2.tq,?_,F2.st.keep K3 ZS⟩;refine .inr ⟨r,aw (f.locals.set i.a.toNat v),rest,ZV,hr,XV hrl,?_,by rw[aX],?_,rfl⟩
  ·intro hh
   have:=X4 List.length hh
   simp[aX]at this;omega
  ·have hok':(aw f.locals++rest).all ay=true:=hok;simp_all[iy]
 refine⟨_,?_,⟨tag2,_,_,_,_,_,H.unfocus hA ((K2.trans K3).mono fun k hk=>ZU) F3 hB⟩⟩;have ixa:=RJ r f.locals.length i.a ha.1 ha.2;rw[C55,S55,fJ0,ae,vZ,ae,hop,aH,ae,show ((3:Int)== 0)=false from rfl,ai,Xr ZT,aH,ae,show ((3:Int)== 1)=false from rfl,ai,Xr ZT,aH,ae,show ((3:Int)== 2)=false from rfl,ai,Xr ZT,
  aH,ae,show ((3:Int)== 3)=true from rfl,ai,Xv rfl,aJ,ae,FH46_3,ae,ap gm,fJ1,ae,Fj,ae,ap e2',ix0,ae,ap lv0,ixa,ae,ap s1]
 rfl
end
def t114:∀(n:Nat)(v:Val),v.sz<=n->v.sz<=1099511627776->af pg 114 [v.av]=ao (.int .i64 (dO v:Nat)):=by
 intro n
 induction n with
 |zero=>intro v h;have:=v.sz_pos;omega
 | succ n ih=>
  intro v hn hv;have hlen:=v.sz_len;have hlv:∀(l:List Val),db l<=1099511627776->dL l<=1099511627776:=by
   intro l
   induction l with
   |nil=>intro _;simp[dL]
   | cons x l ih2=>
    intro h;simp only[db]at h
    have:=ih2 ZS
    have hx:∀(k:Nat)(y:Val),y.sz<=k->dO y<=y.sz:=by
     intro k
     induction k with
     |zero=>intro y hy;have:=y.sz_pos;omega
     |succ k ihk=>
      intro y hy;rw[jc];have h1:=y.sz_values;have h2:dL y.values<=db y.values:=(hG _ _).2 fun z hz=>XM (ihk z (by have:=Xd hz;omega)) (kW hz);omega
    simp only[dL]
    grind
  have hl:∀(B A:List Val)(c:Nat),A++B=v.values->c<=1099511627776->ak (L114_0 (af pg) ak) [.int .i64 (c:Nat),vals v.values,.int .i64 v.values.length,.int .i64 A.length]=ao (.int .i64 ((max c (dL B)+1:Nat))):=by
   intro B
   induction B with
   |nil=>
    intro A c e hc;simp only[XS]at e;subst e;rw[FL114_0];simp (disch:=omega) [L114_0,dL,aM]
   | cons x B ih2=>
    intro A c e hc;have hll:A.length+(B.length+1)=v.values.length:=by rw[<- e];simp
    have h1:(A.length:Int)<(v.values.length:Int):=ZS
    have hx:v.values[A.length]! = x:=by
     rw[<- e,Xx _ _ ZV];simp
    have hm:x∈v.values:=by rw[<- e];simp
    have hx':v.values[A.length]'(ZS)=x:=by rw[<- hx,Xx]
    have h3:=ih x (by have:=Xd hm;omega) (by have:=Xd hm;omega);have hxb:dO x<=1099511627776:=XM ((hG v.values _).1 (hlv v.values (by have:=v.sz_values;omega)) x hm) (Xz _);have h4:=ih2 (A++[x]) (max c (dO x)) ZU ZS;rw[FL114_0];have hmx:(max (c:Int) (dO x:Int))=((max c (dO x):Nat):Int):=ZS
    simp (disch:=omega) [L114_0,h1,aM,qG,hx',h3,hmx]at h4 |-;rw[h4];simp only[dL]
  rw[C114]
  have:=hl v.values [] 0 rfl ZS
  simp_all[S114,jc]
section
variable {L:MLay} {tag:Nat->Nat} {sv dv cv:AV} {vc:List AV} {p:Proc} {h:Hp} {q:Nat} {fs:List Frm} {f:Frm} {A B:List AV} {lv stv:AV}
theorem Sv(H:MR L tag sv (.hs q 0 (fs.length+1) 5 true) dv cv vc p h)(hA:eh tag h 0 fs A)(F:FrAt tag h q A B fs.length f lv stv)(hB:B.all ay=true)(hb:f.stack.length<1000000000)(h1:1<=f.stack.length)(i:Ins)(hop:i.op=11):
  if f.stack[f.stack.length-1]!.kind=1 then Bw L q A i h { p with frames:=fs++[{ f with stack:=f.stack.take (f.stack.length-1),pc:=if f.stack[f.stack.length-1]!.n=0 then i.a else f.pc }] }
  else af pg 55 [.hp L.rm 0,.hp q A.length,i.av] h= .ok (.int .i64 13) h:=by
 obtain⟨w,e0,_,e3⟩:=t112 F 1 h1 hb;obtain⟨rs,rests,rfl,hrs,_⟩:=e3 ZT;have e0':af pg 112 [.hp q A.length,.int .i64 1] h= .ok (.hs rs ((f.stack.length-1)*4) 1 4 true) h:=e0;have i0:aA T 23 (.hs rs ((f.stack.length-1)*4) 1 4 true) (.int .i64 0)=some (.hp rs ((f.stack.length-1+0)*4)):=(jo hrs h1 (j:=0) ZT).1;have l0:=(jo hrs h1 (j:=0) ZT).2;rw[show f.stack.length-1+0=f.stack.length-1 by omega]at i0 l0;obtain⟨h2,tag2,sv2,rv,e2,F2,_,K2,_⟩:=t111 F 1 h1 hb 3 ZT;have e2':af pg 111 [.hp q A.length,.int .i64 1] h= .ok rv h2:=e2;have hA2:=hA.keep K2 fun j _ _=>ZU
 have R2:=H.unfocus hA (K2.mono fun k hk=>.inl hk) F2 hB;generalize f.stack[f.stack.length-1]! = v at l0 |-;have fa0:ah T 33 (.ip (aa v.av)) 0=some (.ip (aa v.av)):=by rw[bK];rfl
 have la0:ax T 3 (.ip (aa v.av))=some (.int .i64 v.kind):=by rw[bK];rfl
 have fa1:ah T 33 (.ip (aa v.av)) 1=some (.ip ((aa v.av).drop 1)):=by rw[bK];rfl
 have la1:ax T 3 (.ip ((aa v.av).drop 1))=some (.int .i64 v.n):=by rw[bK];rfl
 generalize hc:af pg 55 [.hp L.rm 0,.hp q A.length,i.av] h=code;unfold Bw;rw[hc];rw[C55,S55,fJ0,ae,vZ,ae,hop,aH,ae,show ((11:Int)== 0)=false from rfl,ai,Xr ZT,aH,ae,show ((11:Int)== 1)=false from rfl,ai,Xr ZT,aH,ae,show ((11:Int)== 2)=false from rfl,ai,Xr ZT,
  aH,ae,show ((11:Int)== 3)=false from rfl,ai,Xr ZT,aH,ae,show ((11:Int)== 19)=false from rfl,ai,Xr ZT,aH,ae,show ((11:Int)== 10)=false from rfl,ai,Xr ZT,aH,ae,show ((11:Int)== 11)=true from rfl,ai,Xv rfl,
  ap e0',i0,ae,ap l0,bc (dW v),aj,aI,fa0,ae,la0,ae,fY,ae,ai]at hc
 by_cases hk:v.kind=1
 ·rw[Xv hk];rw[Xr (by simp[hk]),ap e2',fa1,ae,la1,ae,aH,ae,ai]at hc;by_cases hn:v.n=0
  ·rw[Xv (by simp[hn]),fJ1,ae,Fj,ae,aJ,ae,FH46_2,ae]at hc;obtain⟨h3,g1,F3,K3⟩:=CK F2 i.a;rw[ap g1]at hc;rw[Xv hn];exact⟨h3,hc.symm,⟨tag2,_,_,_,_,_,R2.unfocus hA2 (K3.mono fun k hk=>.inl hk) F3 hB⟩⟩
  ·rw[Xr (by simp[hn])]at hc;rw[Xr hn];exact⟨h2,hc.symm,⟨tag2,_,_,_,_,_,R2⟩⟩
 ·rw[Xr hk];rw[Xv (by simp[hk])]at hc;exact hc.symm
theorem HX(F:FrAt tag h q A B fs.length f lv stv)(n:Nat)(hn:n<=f.stack.length)(hb:f.stack.length<1000000000):
  ∃w h1,af pg 112 [.hp q A.length,.int .i64 n] h= .ok w h/\au (af pg 25 [w]) oF h= .ok (vals (f.stack.drop (f.stack.length-n))) h1/\Kp tag tag (fun _=>False) h h1:=by
 obtain⟨w,e0,e1,e3⟩:=t112 F n hn hb;have hdl:(f.stack.drop (f.stack.length-n)).length=n:=by simp;omega
 cases n with
 | zero=>
  have hnil:f.stack.drop (f.stack.length-0)=[]:=ZV
  have hcl:af pg 25 [w] h= .ok .he h:=by
   rw[xP];rcases e1 rfl with rfl|rfl|rfl<;>rfl
  refine⟨w,h,e0,?_,fun r cs hr _=>⟨hr,rfl⟩⟩;rw[ap hcl,hnil];rfl
 | succ n=>
  obtain⟨r,rest,rfl,g1,g2⟩:=e3 ZS
  have:=o7 (T:=T) (t:=23) (e:=33) rfl rfl rfl rfl rfl ZT (af pg) g1 g2 (k:=f.stack.length-(n+1)) (n:=n+1) ZS ZU
  rw[Xr ZS]at this;have ht:(f.stack.drop (f.stack.length-(n+1))).take (n+1)=f.stack.drop (f.stack.length-(n+1)):=YE ZS;rw[ht]at this;refine⟨_,(h++[aw (f.stack.drop (f.stack.length-(n+1)))]).set h.length [],e0,?_,fun r cs hr _=>?_⟩
  ·rw[ap ((xP _ h).trans this)];have hf:frz 1 (h++[aw (f.stack.drop (f.stack.length-(n+1)))]) (.hs h.length 0 (n+1) 4 true)=vals (f.stack.drop (f.stack.length-(n+1))):=by
    have:=Hb (d:=0) (h:=h++[aw (f.stack.drop (f.stack.length-(n+1)))]) (r:=h.length) (l:=f.stack.drop (f.stack.length-(n+1))) ZV
    rw[hdl]at this;exact this
   show R.ok (frz 1 _ (.hs h.length 0 (n+1) 4 true)) _=_;rw[hf]
  grind
end
def Gx(ns:List aW)(vs:List Val):cG T false 33 [(0,.int .i64 2),(2,strs ns),(3,vals vs)]=some (Val.mk 2 0 ns vs).av:=by
 rw[Val.av_eq];rfl
section
variable {L:MLay} {tag:Nat->Nat} {sv dv cv:AV} {vc:List AV} {p:Proc} {h:Hp} {q:Nat} {fs:List Frm} {f:Frm} {A B:List AV} {lv stv:AV}
theorem Sw(H:MR L tag sv (.hs q 0 (fs.length+1) 5 true) dv cv vc p h)(hA:eh tag h 0 fs A)(F:FrAt tag h q A B fs.length f lv stv)(hB:B.all ay=true)(hb:f.stack.length<1000000000)(i:Ins)(hop:i.op=12)(hn:i.names.length<=f.stack.length)(hsz:(Val.mk 2 0 i.names (f.stack.drop (f.stack.length-i.names.length))).sz<=1099511627776):
  if dO (.mk 2 0 i.names (f.stack.drop (f.stack.length-i.names.length)))<=4 then Bw L q A i h { p with frames:=fs++[{ f with stack:=f.stack.take (f.stack.length-i.names.length)++[.mk 2 0 i.names (f.stack.drop (f.stack.length-i.names.length))] }] }
  else ∃h',af pg 55 [.hp L.rm 0,.hp q A.length,i.av] h= .ok (.int .i64 6) h'/\vQ L { p with frames:=fs++[f] } h':=by
 obtain⟨w,h1,e0,e1,K1⟩:=HX F i.names.length hn hb;have F1:=F.keep K1 ⟨id,id,id⟩;have hA1:=hA.keep K1 fun j _ _=>⟨id,id⟩;have R1:=H.unfocus hA (K1.mono fun k hk=>hk.elim) F1 hB;obtain⟨h2,tag2,sv2,rv,e2,F2,_,K2,_⟩:=t111 F1 i.names.length hn hb 3 ZT;have hA2:=hA1.keep K2 fun j _ _=>ZU
 have R2:=R1.unfocus hA1 (K2.mono fun k hk=>.inl hk) F2 hB;have hcn:=t113 i.names ZS;have hln:bp T 31 (strs i.names)=some (.int .i64 i.names.length):=iB _;generalize hv:Val.mk 2 0 i.names (f.stack.drop (f.stack.length-i.names.length))=v at hsz |-;have hbr:cG T false 33 [(0,.int .i64 2),(2,strs i.names),(3,vals (f.stack.drop (f.stack.length-i.names.length)))]=some v.av:=by rw[<- hv];exact Gx _ _
 have hld:ax T 33 (.ip (aa v.av))=some v.av:=by cases v;rfl
 have hdp:=t114 _ v (Xz _) hsz;generalize hc:af pg 55 [.hp L.rm 0,.hp q A.length,i.av] h=code;unfold Bw;rw[hc];rw[C55,S55,fJ0,ae,vZ,ae,hop,aH,ae,show ((12:Int)== 0)=false from rfl,ai,Xr ZT,aH,ae,show ((12:Int)== 1)=false from rfl,ai,Xr ZT,aH,ae,show ((12:Int)== 2)=false from rfl,ai,Xr ZT,
  aH,ae,show ((12:Int)== 3)=false from rfl,ai,Xr ZT,aH,ae,show ((12:Int)== 19)=false from rfl,ai,Xr ZT,aH,ae,show ((12:Int)== 10)=false from rfl,ai,Xr ZT,aH,ae,show ((12:Int)== 11)=false from rfl,ai,Xr ZT,
  aH,ae,show ((12:Int)== 12)=true from rfl,ai,Xv rfl,fJ4,ae,R7,ae,ae,R7,ae,hln,ae,hcn,aj,ap e0,ap e1,hbr,ae,bc (dW v),aj,aI,hld,ae,hdp,aj,dq,ae,ai]at hc
 by_cases hl:dO v<=4
 ·rw[Xv hl];rw[Xr ZU,ae,R7,ae,hln,ae,ap e2,ae]at hc;obtain⟨h3,g1,g2⟩:=s9 R2 hA2 F2 hB ZX v;rw[ap g1]at hc;exact⟨h3,hc.symm,g2⟩
 ·rw[Xr hl];rw[Xv ZU]at hc;exact⟨h1,hc.symm,⟨tag,_,_,_,_,_,R1⟩⟩
end
def sU{α:Type}(m:M α):au m (fun v=>ao v)=m:=by
 funext h
 grind [Av.au,ao]
def l9(a0 a1:AV)(i:Ins)(h0:i.op≠0)(h1:i.op≠1)(h2:i.op≠2)(h3:i.op≠3)(h19:i.op≠19)(h10:i.op≠10)(h11:i.op≠11)(h12:i.op≠12):
  af pg 55 [a0,a1,i.av]=if i.op=14 then af pg 115 [a0,a1,i.av]else if i.op=16\/i.op=17 then af pg 116 [a0,a1,i.av]else if i.op=9\/i.op=13\/i.op=15 then af pg 117 [a0,a1,i.av]else af pg 118 [a1,.int .i64 i.op]:=by
 have b:∀k:Int,i.op≠k->(i.op== k)=false:=fun k h=>by simp[h]
 rw[C55,S55,fJ0,ae,vZ,ae,aH,ae,b 0 h0,ai,Xr ZT,aH,ae,b 1 h1,ai,Xr ZT,aH,ae,b 2 h2,ai,Xr ZT,
  aH,ae,b 3 h3,ai,Xr ZT,aH,ae,b 19 h19,ai,Xr ZT,aH,ae,b 10 h10,ai,Xr ZT,aH,ae,b 11 h11,ai,Xr ZT,aH,ae,b 12 h12,ai,Xr ZT,
  aH,ae,ai,Ga,ae,sU]
 by_cases h14:i.op=14
 ·grind
 rw[Xr (by simp[h14]),Xr h14];simp -implicitDefEqProofs only[jn,aH,ae,ai];have k1t:K55_1 (af pg) ak [a0,a1,.ip (aa i.av),.int .i64 i.op,.bool true]=af pg 116 [a0,a1,i.av]:=by
  rw[K55_1];simp -implicitDefEqProofs only[am,ar,ai,XF,Ga,ae,sU]
 have k1f:K55_1 (af pg) ak [a0,a1,.ip (aa i.av),.int .i64 i.op,.bool false]=if i.op=9\/i.op=13\/i.op=15 then af pg 117 [a0,a1,i.av]else af pg 118 [a1,.int .i64 i.op]:=by
  have k0t:K55_0 (af pg) ak [a0,a1,.ip (aa i.av),.bool true]=af pg 117 [a0,a1,i.av]:=by
   rw[K55_0];simp -implicitDefEqProofs only[am,ar,ai,XF,Ga,ae,sU]
  have k0f:K55_0 (af pg) ak [a0,a1,.ip (aa i.av),.bool false]=af pg 118 [a1,.int .i64 i.op]:=by
   rw[K55_0];simp -implicitDefEqProofs only[am,ar,ai,Xs,Xy,fJ0,vZ,ae,sU]
  rw[K55_1];simp -implicitDefEqProofs only[am,ar,ai,Xs,Xy,jn,aH,ae];by_cases h9:i.op=9
  ·grind
  rw[Xr (by simp[h9])];by_cases h13:i.op=13
  ·grind
  rw[Xr (by simp[h13])];by_cases h15:i.op=15
  ·grind
  rw[Xr ZS,b 15 h15,k0f]
 grind
structure StepOk (p:Proc) (f:Frm) (i:Ins):Prop where
 hb:f.stack.length<=1000000
 hd:p.out.deeds.length<1000000
 hc:p.out.calls.length<1000000
 loc:i.op=2\/i.op=3->0<=i.a/\i.a<f.locals.length
 one:i.op=3\/i.op=19\/i.op=11\/i.op=9\/i.op=13\/i.op=15\/i.op=17->1<=f.stack.length
 two:4<=i.op/\i.op<=8->2<=f.stack.length
 rec_:i.op=12->i.names.length<=f.stack.length/\(Val.mk 2 0 i.names (f.stack.drop (f.stack.length-i.names.length))).sz<=1099511627776
 cal:i.op=14->(0<=i.a/\i.a<=f.stack.length)/\∀s x,fj p.mods s i.s=some x->x.cod.locals<=1000000
 var:i.op=16\/i.op=17->0<=cV p.mods f.mod/\0<=i.a/\∃w,p.state[(cV p.mods f.mod).toNat]? = some w/\w.values.length<1000000000
 val:f.stack[f.stack.length-1]!.names.length=f.stack[f.stack.length-1]!.values.length/\f.stack[f.stack.length-1]!.names.length<=1000000
 ops:i.op=0\/i.op=1\/i.op=2\/i.op=3\/i.op=19\/i.op=10\/i.op=11\/i.op=12\/i.op=14\/i.op=16\/i.op=17\/(i.op=9\/i.op=13\/i.op=15)\/(4<=i.op/\i.op<=8)
section
variable {L:MLay} {tag:Nat->Nat} {sv dv cv:AV} {vc:List AV} {p:Proc} {h:Hp} {q:Nat} {fs:List Frm} {f:Frm} {A B:List AV} {lv stv:AV}
theorem t55(H:MR L tag sv (.hs q 0 (fs.length+1) 5 true) dv cv vc p h)(M:MapOk T 79 80 L p.mods)(hp:p.frames=fs++[f])(hA:eh tag h 0 fs A)(F:FrAt tag h q A B fs.length f lv stv)(hB:B.all ay=true)(i:Ins)(C:StepOk p f i):
  match mW p fs f i with
  |.ok p'=>Bw L q A i h p'
  |.error e=>∃h',af pg 55 [.hp L.rm 0,.hp q A.length,i.av] h= .ok (.int .i64 e) h'/\vQ L p h':=by
 have same:vQ L p h:=⟨tag,_,_,_,_,_,H⟩;have hpe:{ p with frames:=fs++[f] } = p:=by rw[<- hp]
 have hb:f.stack.length<1000000000:=by have:=C.hb;omega
 rcases C.ops with h0|h0|h0|h0|h0|h0|h0|h0|h0|h0|h0|h0|h0
 ·grind [mW,VT]
 ·grind [mW,VU]
 ·rw[show mW p fs f i= .ok { p with frames:=fs++[{ f with stack:=f.stack++[f.locals[i.a.toNat]!] }] } by simp[mW,h0]];exact VV H hA F hB hb i h0 (C.loc (.inl h0))
 ·rw[show mW p fs f i= .ok { p with frames:=fs++[{ f with locals:=f.locals.set i.a.toNat f.stack[f.stack.length-1]!,stack:=f.stack.take (f.stack.length-1) }] } by simp[mW,h0]];exact VW H hA F hB hb (C.one (.inl h0)) i h0 (C.loc (.inr h0))
 ·rw[show mW p fs f i= .ok { p with frames:=fs++[{ f with stack:=f.stack.take (f.stack.length-1) }] } by simp[mW,h0]];exact Sx H hA F hB hb (C.one (.inr (.inl h0))) i h0
 ·grind [mW,Su]
 ·have k:=Sv H hA F hB hb (C.one (.inr (.inr (.inl h0)))) i h0
  grind [mW]
 ·have k:=Sw H hA F hB hb i h0 (C.rec_ h0).1 (C.rec_ h0).2
  grind [mW]
 ·have k:=t115 H M hA F hB i h0 C.hb C.hc (C.cal h0).1 (C.cal h0).2;have r:=l9 (.hp L.rm 0) (.hp q A.length) i ZS ZS ZS ZS ZS ZS ZS ZS;rw[Xv h0]at r;unfold Bw;rw[r]
  grind
 ·obtain⟨v1,v2,w,v3,v4⟩:=C.var (.inl h0);have k:=t116 H M hA F hB i v1 v3 hb v4 v2 (fun h=>absurd h0 h);have r:=l9 (.hp L.rm 0) (.hp q A.length) i ZS ZS ZS ZS ZS ZS ZS ZS;rw[Xr ZS,Xv (.inl h0)]at r;unfold Bw;rw[r];rw[show mW p fs f i=if i.a<w.values.length then .ok { p with frames:=fs++[{ f with stack:=f.stack++[w.values[i.a.toNat]!] }] }else .error 12 by simp[mW,h0,v3]]
  grind
 ·obtain⟨v1,v2,w,v3,v4⟩:=C.var (.inr h0);have k:=t116 H M hA F hB i v1 v3 hb v4 v2 (fun _=>C.one (by simp[h0]));have r:=l9 (.hp L.rm 0) (.hp q A.length) i ZS ZS ZS ZS ZS ZS ZS ZS;rw[Xr ZS,Xv (.inr h0)]at r;unfold Bw;rw[r];rw[show mW p fs f i=if i.a<w.values.length then .ok { p with frames:=fs++[f],state:=p.state.modify (cV p.mods f.mod).toNat fun w=>{ w with values:=w.values.set i.a.toNat f.stack[f.stack.length-1]! } }else .error 12 by simp[mW,h0,v3]]
  grind
 ·have k:=t117 H hA F hB i (C.one ZS) hb C.hd h0 C.val.1 C.val.2;have r:=l9 (.hp L.rm 0) (.hp q A.length) i ZS ZS ZS ZS ZS ZS ZS ZS;rw[Xr ZS,Xr ZS,Xv h0]at r;unfold Bw;rw[r]
  grind
 ·have k:=t118 F i.op (C.two h0) hb;have r:=l9 (.hp L.rm 0) (.hp q A.length) i ZS ZS ZS ZS ZS ZS ZS ZS;rw[Xr ZS,Xr ZS,Xr ZS]at r;unfold Bw;rw[r];have e:mW p fs f i=match BJ i.op f.stack[f.stack.length-2]! f.stack[f.stack.length-1]! with
    |some x=>.ok { p with frames:=fs++[{ f with stack:=f.stack.take (f.stack.length-2)++[x] }] }
    |none=>.error 13:=by
   unfold mW;simp only[show ¬i.op=0 by omega,show ¬i.op=1 by omega,show ¬i.op=2 by omega,show ¬i.op=3 by omega,show ¬i.op=19 by omega,show ¬i.op=10 by omega,show ¬i.op=11 by omega,show ¬i.op=12 by omega,show ¬i.op=14 by omega,show ¬i.op=16 by omega,show ¬i.op=17 by omega,show ¬i.op=9 by omega,show ¬i.op=13 by omega,show ¬i.op=15 by omega,Xy];rfl
  rw[e];cases hx:BJ i.op f.stack[f.stack.length-2]! f.stack[f.stack.length-1]! with
  |none=>grind
  |some x=>
   rw[hx]at k;obtain⟨h',tag',sv',k1,k2,k3⟩:=k;exact⟨h',k1,⟨tag',_,_,_,_,_,H.unfocus hA (k3.mono fun k hk=>ZU) k2 hB⟩⟩
end
end Go.Proofs.YtbndmpiddinalabGreatDoor
