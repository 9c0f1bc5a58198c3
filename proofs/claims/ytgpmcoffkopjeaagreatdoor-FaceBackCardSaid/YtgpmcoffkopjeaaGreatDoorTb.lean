/- What the functions of the seat compute, part 2: the texts of the claim, one behind the other. Conditions: bounds, as each theorem names them. -/
import Derived.Test.YtgpmcoffkopjeaaGreatDoorTa
set_option linter.defProp false
set_option linter.unusedSimpArgs false
set_option linter.unusedVariables false
namespace Go.Proofs.YtgpmcoffkopjeaaGreatDoor
open Go Go.Av Go.RowKit
set_option maxRecDepth 100000
def Aj(S:ao)(β:List a8)(y:List UInt8×Int×List AV)(z:b8):Prop:=z.1.data.toList=y.1/\z.2.1=y.2.1/\VR S β (.sl y.2.2) z.f
def gF(S:ao)(β:List a8):List (List UInt8×Int×List AV)->List b8->Prop
 |[],zs=>zs=[]
 |y:: l,zs=>∃z r,zs=z:: r/\Aj S β y z/\gF S β l r
theorem gF.length{S:ao}{β:List a8}:{l:List (List UInt8×Int×List AV)} ->{zs:List b8} ->gF S β l zs->zs.length=l.length
 |[],_,h=>by simp only[gF]at h;simp[h]
 |y:: l,zs,h=>by
  simp only[gF]at h;obtain⟨z,r,rfl,_,h⟩:=h;simp[gF.length h]
def tS{e:AV}{y:List UInt8×Int×List AV}(h:qf e=some y):e= .agg [.str y.1,.int .i64 y.2.1,.sl y.2.2]:=by
 unfold qf at h;split at h
 ·cases h;rfl
 ·cases h
theorem A5{S:ao}{β:List a8}{b sz:Nat}:(es:List AV)->(off:Nat)->(l:List (List UInt8×Int×List AV))->be S β es b off sz->dZ es=some l->
  ∃zs:List b8,gF S β l zs/\∀j,j<zs.length->S b (off+j*3)=some (.string (zs[j]?.getD default).1)/\S b (off+j*3+1)=some (zs[j]?.getD default).k/\S b (off+j*3+2)=some (zs[j]?.getD default).f
 |[],off,l,_,h=>by
  simp only[dZ,DI]at h;subst h;exact⟨[],rfl,fun j hj=>by simp at hj⟩
 | e :: es,off,l,he,h=>by
  simp only[dZ]at h;cases h1:qf e with
  |none=>rw[h1]at h;cases h
  | some y=>
   cases h2:dZ es with
   |none=>rw[h1,h2]at h;cases h
   | some l'=>
    rw[h1,h2]at h;simp only[DI]at h;subst h;simp only[be]at he;obtain⟨⟨v,hv,hs,hc⟩,he⟩:=he
    have:=tS h1
    subst this;simp only[VR,aE]at hv;obtain⟨vs,rfl,_,_,rfl,⟨x,rfl,hx⟩,_,_,rfl,rfl,v3,_,rfl,hv3,rfl⟩:=hv;obtain⟨p,cap,hp,hq1,hq2,hq3⟩:=hv3;subst hp;have hsz:sz=3:=by rw[<- hs];rfl
    subst hsz;obtain⟨zs,hR,hZ⟩:=A5 es (off+3) l' he h2;have c0:=hc 0 _ rfl;have c1:=hc 1 _ rfl;have c2:=hc 2 _ rfl;refine⟨(x,y.2.1,(p,y.2.2.length,cap)):: zs,⟨_,_,rfl,⟨hx,rfl,by simp only[b8.f,VR];exact⟨p,cap,rfl,hq1,hq2,hq3⟩⟩,hR⟩,fun j hj=>?_⟩;cases j with
    |zero=>exact⟨by simpa using c0,by simpa [b8.k]using c1,by simpa [b8.f]using c2⟩
    |succ j=>
     have:=hZ j (by simpa using hj)
     rw[show off+3+j*3=off+(j+1)*3 by omega]at this;simpa using this
theorem jl{S:ao}{β:List a8}{x:ByteArray}{name:List UInt8}(hx:x.data.toList=name):{l:List (List UInt8×Int×List AV)} ->{zs:List b8} ->gF S β l zs->
  (cX (fun z=>z.1== name) l=none/\cX (fun z:b8=>decide (z.1=x)) zs=none)\/∃y z,cX (fun z=>z.1== name) l=some y/\cX (fun z:b8=>decide (z.1=x)) zs=some z/\Aj S β y z
 |[],zs,h=>by simp only[gF]at h;subst h;exact .inl ⟨rfl,rfl⟩
 | y :: l,zs,h=>by
  simp only[gF]at h;obtain⟨z,r,rfl,hz,h⟩:=h;rcases jl hx h with⟨h1,h2⟩|⟨y',z',h1,h2,h3⟩
  ·have he:(y.1== name)=decide (z.1=x):=by
    rw[<- hz.1,<- hx];by_cases h:z.1=x
    ·subst h;simp
    ·have h':z.1.data.toList≠x.data.toList:=fun h'=>h (ByteArray.ext (Fi h'));rw[Fo h];exact EZ.2 h'
   simp only[cX,h1,h2,he];cases decide (z.1=x)with
   |true=>exact .inr ⟨y,z,rfl,rfl,hz⟩
   |false=>exact .inl ⟨rfl,rfl⟩
  ·simp only[cX,h1,h2];exact .inr ⟨_,_,rfl,rfl,h3⟩
def zH(call:FuncId->List AV->M AV)(args:List AV)(h:Hp)(S:ao)(β:List a8)(w:World)(vs:List Value)(hr:hM call args h≠.fail)(hg:lq β h w)(hw:Wf S w)(hh:bS S β w h)(hv:aE S β args vs):
  Calls Tryz.prog 138 vs.toArray w (cF none S β h w (hM call args h)):=by
 unfold hM at hr |-;split at hr
 ·rename_i es name;cases hl:dZ es with
  |none=>rw[hl]at hr;exact absurd rfl hr
  | some l=>
   rw[hl]at hr;simp only at hr |-;cases hc:decide (l.length<=1000000000)with
   |false=>rw[hc]at hr;exact absurd rfl hr
   | true=>
    simp only[DJ];simp only[aE,VR]at hv;obtain⟨_,_,rfl,⟨a,cap,rfl,hle,hnil,hq⟩,_,_,rfl,⟨x,rfl,hx⟩,rfl⟩:=hv;have hlen:∀(es:List AV)(l:List (List UInt8×Int×List AV)),dZ es=some l->l.length=es.length:=by
     intro es
     induction es with
     |nil=>intro l h;simp only[dZ,DI]at h;subst h;rfl
     | cons e es ih=>
      intro l h;simp only[dZ]at h;split at h
      ·rename_i h2;cases h;simp[ih _ h2]
      ·cases h
    have hll:=hlen es l hl;have hz:∃zs:List b8,gF S β l zs/\iU w.heap.size w (.slice a zs.length cap) zs:=by
     cases es with
     |nil=>
      simp only[dZ,DI]at hl;subst hl;exact⟨[],rfl,.inl ⟨rfl,a,cap,rfl⟩⟩
     | cons e es=>
      cases a with
      |none=>have:=hnil rfl;subst this;simp at hle
      | some q=>
       obtain⟨hs,sz,hE⟩:=hq q rfl;have hcap:0<cap:=by simp at hle;omega
       obtain⟨b,off,sp⟩:=q;have hs':sp=none:=hs hcap;subst hs';obtain⟨zs,hR,hZ⟩:=A5 (e:: es) off l hE hl;refine⟨zs,hR,.inr ⟨b,off,cap,rfl,?_,fun j hj=>?_⟩⟩
       ·have h0:=(hZ 0 (by rw[hR.length,hll];simp)).1;exact hw.lt h0
       ·obtain⟨h1,h2,h3⟩:=hZ j hj;exact⟨hw _ _ _ h1,hw _ _ _ h2,hw _ _ _ h3⟩
    obtain⟨zs,hR,hF⟩:=hz;have hzl:=hR.length;rw[show es.length=zs.length by omega];refine (callsIn_wide (n:=3)).1 ((xx Fence.wide 3 trivial trivial trivial rfl (by omega) a zs.length cap x zs (by have:=FD hc;omega) w hF).mono ?_);rintro e w' ⟨rfl,hb⟩;refine bN hw hh hb mA ?_;unfold o3 r6 ka;rw[<- nf];rcases jl hx hR with⟨h1,h2⟩|⟨y,z,h1,h2,h3⟩
    ·rw[h1,h2];simp only[VR,aE];exact⟨_,rfl,_,_,rfl,⟨_,rfl,_,_,rfl,rfl,_,_,rfl,⟨none,0,rfl,DT _,fun _=>rfl,fun q hq=>by cases hq⟩,rfl⟩,_,_,rfl,rfl,rfl⟩
    ·rw[h1,h2];obtain⟨_,h4,h5⟩:=h3;simp only[VR,aE];exact⟨_,rfl,_,_,rfl,⟨_,rfl,_,_,rfl,by rw[<- h4];rfl,_,_,rfl,h5,rfl⟩,_,_,rfl,rfl,rfl⟩
 ·exact absurd rfl hr
end Go.Proofs.YtgpmcoffkopjeaaGreatDoor
namespace Go.Proofs.YtgpmcoffkopjeaaGreatDoor
open Go Go.Av
set_option maxRecDepth 100000
noncomputable def tL(n:Nat)(a:Ann):Cx:={ T:=T,call:=fun _ _=>M.fail,own:=own,iso:=fun _=>false,nw:=fun _=>false,nt:=n,ann:=a }
def nP(n:Nat)(a:Ann):bR Tryz.prog (tL n a).own (tL n a).call:=fun f args h S β w vs hr=>absurd rfl hr
def sO(n:Nat)(a:Ann):IsoCall (tL n a):=⟨fun f args h=>Bool.noConfusion h,fun f args h=>Bool.noConfusion h⟩
def CB(e:AV)(es:List AV):bD (tL Tryz.f49.ntmps sH) (bZ 0) Tryz.f49 none [.sl (e:: es)]=ae (appH T 33 true (.sl []) (.sl (e:: es))) fun v=>ae (ah (some v)) M.pure:=by kernel_rfl
def CE:bD (tL Tryz.f49.ntmps sH) (bZ 0) Tryz.f49 none [.hn]=ae (ah (some (.sl []))) M.pure:=by kernel_rfl
def CF(l off:Nat):bD (tL Tryz.f49.ntmps sH) (bZ 0) Tryz.f49 none [.hs l off 0 1 false]=ae (appH T 33 true (.sl []) (.hs l off 0 1 false)) fun v=>ae (ah (some v)) M.pure:=by kernel_rfl
def Bq(call:FuncId->List AV->M AV)(args:List AV)(h:Hp)(S:ao)(β:List a8)(w:World)(vs:List Value)(hr:cB T 33 call args h≠.fail)(hg:lq β h w)(hw:Wf S w)(hh:bS S β w h)(hv:aE S β args vs):
  Calls Tryz.prog 49 vs.toArray w (cF none S β h w (cB T 33 call args h)):=by
 have key:∀es,args=[.sl es]->Calls Tryz.prog 49 vs.toArray w (cF none S β h w (cB T 33 call args h)):=by
  rintro es rfl;exact (kz (cx:=tL Tryz.f49.ntmps sH) (E:=fun es h=>cB T 33 call [.sl es] h) tok (nP _ _) (sO _ _) Tryz.func49 rfl (fun h=>by rfl) (fun e es h=>by rw[CB];exact congrFun (uX _) h) (fun h=>by rw[CE];rfl) (fun l off h=>by rw[CF];rfl) hr hg hw hh hv).1
 unfold cB at hr;split at hr
 ·exact key _ rfl
 ·exact absurd rfl hr
end Go.Proofs.YtgpmcoffkopjeaaGreatDoor
namespace Go.Proofs.YtgpmcoffkopjeaaGreatDoor
open Go Go.Av Go.Av.Ap
set_option maxRecDepth 100000
noncomputable section
abbrev EE(k:Nat)(fn:Go.Func)(g:Ann)(l:List AV)(S:CC->cd AV->M AV):Prop:=∀call fx,bD (pg.cx call fn.ntmps g) fx fn (own k) l=S call fx
def K4_0(call:CC)(fx:cd AV)(a:List AV):M AV:=ae (call 11 [nth a 0]) fun b=>ae (ah (aZ b 0)) fun c=>ae (ah (aZ b 1)) fun d=>ae (bo 2 c) fun e=>ae (ah (au T .neq 42 d (.int .i64 0))) fun f=>aQ f (ae (aw (nth a 1) true 1 (ae (ah (au T .eql 42 d (.int .i64 2))) fun g=>M.pure [g])) fun h=>ae (ah (aO (nth a 1) (nth h 0) (.bool false))) fun i=>ae (aw i true 1 (ae (ah (ak T 32 (.ip (ab e)))) fun j=>ae (ah (db T false 32 [])) fun k=>ae (call 15 [j,k]) fun l=>M.pure [l])) fun m=>ae (ah (aO i (nth m 0) (.bool false))) fun n=>M.pure n) (ae (ah (ak T 32 (.ip (ab e)))) fun o=>ae (call 9 [o]) fun p=>ae (ah (aZ p 0)) fun q=>ae (ah (aZ p 1)) fun r=>ae (aw (nth a 1) true 1 (ae (ah (ak T 32 (.ip (ab e)))) fun s=>ae (call 17 [s]) fun u=>M.pure [u])) fun v=>ae (ah (aO (nth a 1) (nth v 0) (.bool false))) fun w=>ae (aw w true 1 (ae (ah (au T .eql 42 r (.int .i64 0))) fun x=>M.pure [x])) fun y=>ae (ah (aO w (nth y 0) (.bool false))) fun z=>ae (aw z true 1 (ae (ah (au T .eql 9 q (nth a 0))) fun A=>M.pure [A])) fun B=>ae (ah (aO z (nth B 0) (.bool false))) fun C=>M.pure C)
def S4(call:CC)(fx:cd AV)(a0 a1:AV):M AV:=ae (call 5 []) fun a=>ae (ah (ak T 32 (.ip (ab a0)))) fun b=>ae (call 7 [b]) fun c=>ae (ah (jL UnOp.not c)) fun d=>ae (aw d false 1 (ae (ah (a7 T 9 a1)) fun e=>ae (ah (au T .gtr 3 e (.int .i64 2000))) fun f=>M.pure [f])) fun g=>ae (ah (aO d (.bool true) (nth g 0))) fun h=>aQ h (M.pure a) (ae (ah (ak T 32 (.ip (ab a0)))) fun i=>ae (call 9 [i]) fun j=>ae (ah (aZ j 0)) fun k=>ae (ah (aZ j 1)) fun l=>ae (ah (au T .eql 42 l (.int .i64 0))) fun m=>ae (ah (ak T 32 (.ip (ab a0)))) fun n=>ae (call 17 [n]) fun o=>ae (ah (au T .neq 4 m o)) fun p=>ae (aw p false 1 (ae (ah (au T .neq 42 l (.int .i64 0))) fun q=>M.pure [q])) fun r=>ae (aw (nth r 0) true 1 (ae (ah (au T .neq 42 l (.int .i64 1))) fun s=>M.pure [s])) fun u=>ae (aw (nth u 0) false 1 (ae (ah (au T .neq 9 k (.str []))) fun v=>M.pure [v])) fun w=>ae (aw (nth r 0) true 1 (ae (ah (aO (nth u 0) (.bool true) (nth w 0))) fun x=>M.pure [x])) fun y=>ae (aw p false 1 (ae (ah (aO (nth r 0) (nth y 0) (.bool false))) fun z=>M.pure [z])) fun A=>ae (ah (aO p (.bool true) (nth A 0))) fun B=>aQ B (M.pure (AV.bool false)) (jn (K4_0 call fx) fun C=>ae (ah (au T .eql 42 l (.int .i64 0))) fun D=>aQ D (ae (call 11 [k]) fun E=>ae (ah (aZ E 0)) fun F=>ae (ah (aZ E 1)) fun G=>ae (bo 2 F) fun H=>ae (ah (au T .add 9 k (.str [48,59]))) fun I=>ae (call 11 [I]) fun J=>ae (ah (aZ J 0)) fun K=>ae (ah (aZ J 1)) fun L=>ae (bo 2 K) fun N=>ae (ah (au T .neq 42 G (.int .i64 0))) fun O=>ae (aw O false 1 (ae (ah (ak T 32 (.ip (ab a0)))) fun P=>ae (ah (ak T 32 (.ip (ab H)))) fun Q=>ae (call 15 [P,Q]) fun R=>ae (ah (jL UnOp.not R)) fun S=>M.pure [S])) fun U=>ae (ah (aO O (.bool true) (nth U 0))) fun V=>ae (aw V false 1 (ae (ah (au T .neq 42 L (.int .i64 2))) fun W=>M.pure [W])) fun X=>ae (ah (aO V (.bool true) (nth X 0))) fun Y=>aQ Y (M.pure (AV.bool false)) (C [a1,a])) (C [a1,a])))
def E4(a0 a1:AV):EE 4 Tryz.f4 AA [a0,a1] (fun c x=>S4 c x a0 a1):=fun _ _=>by kernel_rfl
def C4(a0 a1:AV):af pg 4 [a0,a1]=aK (S4 (af pg) ai (cl ax a0) (cl ax a1)):=(ay hOther rfl rfl rfl _).trans (DL aK (E4 (cl ax a0) (cl ax a1) _ _))
def L7_0(call:CC)(fx:cd AV)(a:RR)(b:List AV):M AV:=ae (ah (aa T 32 (nth b 0) 1)) fun c=>ae (ah (ak T 30 c)) fun d=>ae (ah (a7 T 30 d)) fun e=>ae (ah (au T .lss 3 (nth b 1) e)) fun f=>ae (aw f true 1 (ae (ah (au T .lss 3 (nth b 1) (.int .i64 9))) fun g=>M.pure [g])) fun h=>ae (ah (aO f (nth h 0) (.bool false))) fun i=>aQ i (ae (ah (aa T 32 (nth b 0) 1)) fun j=>ae (ah (ak T 30 j)) fun k=>ae (ah (az T 30 k (nth b 1))) fun l=>ae (ah (ak T 37 l)) fun m=>ae (call 8 [m]) fun n=>ae (ah (jL UnOp.not n)) fun o=>aQ o (M.pure (AV.bool false)) (ae (ah (au T .add 3 (nth b 1) (.int .i64 1))) fun p=>a [nth b 0,p])) (ae (ah (aa T 32 (nth b 0) 1)) fun q=>ae (ah (ak T 30 q)) fun r=>ae (ah (a7 T 30 r)) fun s=>ae (ah (au T .leq 3 s (.int .i64 8))) fun u=>M.pure u)
def XL7_0{call:CC}:cU (L7_0 call ai) fun _n=>L7_0 call ai  :=by
 intro a b c d;unfold L7_0;exact (by(iterate 6 refine lb fun _=>?_);exact (aP (by(iterate 6 refine lb fun _=>?_);exact (aP (aL.const _) (lb fun _=>c _))) (aL.const _)))
def FL7_0(call:CC)(vs:List AV):ai (L7_0 call ai) vs=L7_0 call ai  (ai (L7_0 call ai)) vs:=bU (XL7_0) vs
def S7(call:CC)(fx:cd AV)(a0:AV):M AV:=fx (L7_0 call fx) [.ip (ab a0),.int .i64 0]
def E7(a0:AV):EE 7 Tryz.f7 AH [a0] (fun c x=>S7 c x a0):=fun _ _=>by kernel_rfl
def C7(a0:AV):af pg 7 [a0]=aK (S7 (af pg) ai (cl ax a0)):=(ay hOther rfl rfl rfl _).trans (DL aK (E7 (cl ax a0) _ _))
def L16_0(call:CC)(fx:cd AV)(a:RR)(b:List AV):M AV:=ae (ah (aa T 37 (nth b 0) 1)) fun c=>ae (ah (ak T 33 c)) fun d=>ae (ah (a7 T 33 d)) fun e=>ae (ah (au T .lss 3 (nth b 2) e)) fun f=>aQ f (ae (ah (aa T 37 (nth b 0) 1)) fun g=>ae (ah (ak T 33 g)) fun h=>ae (ah (az T 33 h (nth b 2))) fun i=>ae (ah (ak T 35 i)) fun j=>ae (ah (aa T 37 (nth b 1) 1)) fun k=>ae (ah (ak T 33 k)) fun l=>ae (ah (az T 33 l (nth b 2))) fun m=>ae (ah (ak T 35 m)) fun n=>ae (cu (call 51 [j,n])) fun o=>ae (ah (jL UnOp.not o)) fun p=>aQ p (M.pure (AV.bool false)) (ae (ah (au T .add 3 (nth b 2) (.int .i64 1))) fun q=>a [nth b 0,nth b 1,q])) (M.pure (AV.bool true))
def XL16_0{call:CC}:cU (L16_0 call ai) fun _n=>L16_0 call ai  :=by
 intro a b c d;unfold L16_0;exact (lb fun _=>(lb fun _=>(lb fun _=>(lb fun _=>(aP (by(iterate 10 refine lb fun _=>?_);exact (aP (aL.const _) (lb fun _=>c _))) (aL.const _))))))
def FL16_0(call:CC)(vs:List AV):ai (L16_0 call ai) vs=L16_0 call ai  (ai (L16_0 call ai)) vs:=bU (XL16_0) vs
def S16(call:CC)(fx:cd AV)(a0 a1:AV):M AV:=ae (ah (aa T 37 (.ip (ab a0)) 0)) fun a=>ae (ah (ak T 9 a)) fun b=>ae (ah (aa T 37 (.ip (ab a1)) 0)) fun c=>ae (ah (ak T 9 c)) fun d=>ae (ah (au T .neq 9 b d)) fun e=>ae (aw e false 1 (ae (ah (aa T 37 (.ip (ab a0)) 3)) fun f=>ae (ah (ak T 3 f)) fun g=>ae (ah (aa T 37 (.ip (ab a1)) 3)) fun h=>ae (ah (ak T 3 h)) fun i=>ae (ah (au T .neq 3 g i)) fun j=>M.pure [j])) fun k=>ae (ah (aO e (.bool true) (nth k 0))) fun l=>ae (aw l false 1 (ae (ah (aa T 37 (.ip (ab a0)) 1)) fun m=>ae (ah (ak T 33 m)) fun n=>ae (ah (a7 T 33 n)) fun o=>ae (ah (aa T 37 (.ip (ab a1)) 1)) fun p=>ae (ah (ak T 33 p)) fun q=>ae (ah (a7 T 33 q)) fun r=>ae (ah (au T .neq 3 o r)) fun s=>M.pure [s])) fun u=>ae (ah (aO l (.bool true) (nth u 0))) fun v=>ae (aw v false 1 (ae (ah (aa T 37 (.ip (ab a0)) 2)) fun w=>ae (ah (ak T 35 w)) fun x=>ae (ah (aa T 37 (.ip (ab a1)) 2)) fun y=>ae (ah (ak T 35 y)) fun z=>ae (call 51 [x,z]) fun A=>ae (ah (jL UnOp.not A)) fun B=>M.pure [B])) fun C=>ae (ah (aO v (.bool true) (nth C 0))) fun D=>aQ D (M.pure (AV.bool false)) (fx (L16_0 call fx) [.ip (ab a0),.ip (ab a1),.int .i64 0])
def E16(a0 a1:AV):EE 16 Tryz.f16 xY [a0,a1] (fun c x=>S16 c x a0 a1):=fun _ _=>by kernel_rfl
def C16(a0 a1:AV):af pg 16 [a0,a1]=aK (S16 (af pg) ai (cl ax a0) (cl ax a1)):=(ay hOther rfl rfl rfl _).trans (DL aK (E16 (cl ax a0) (cl ax a1) _ _))
def L17_0(call:CC)(fx:cd AV)(a:RR)(b:List AV):M AV:=ae (ah (au T .lss 3 (nth b 3) (nth b 2))) fun c=>aQ c (ae (ah (az T 30 (nth b 1) (nth b 3))) fun d=>ae (ah (ak T 37 d)) fun e=>ae (bo 5 e) fun f=>ae (ah (ak T 37 (.ip (ab f)))) fun g=>ae (cu (call 53 [g])) fun h=>ae (ah (jL UnOp.not h)) fun i=>ae (aw i false 1 (ae (ah (au T .gtr 3 (nth b 3) (.int .i64 0))) fun j=>M.pure [j])) fun k=>ae (aw (nth k 0) true 1 (ae (ah (aa T 32 (nth b 0) 1)) fun l=>ae (ah (ak T 30 l)) fun m=>ae (ah (au T .sub 3 (nth b 3) (.int .i64 1))) fun n=>ae (ah (az T 30 m n)) fun o=>ae (ah (aa T 37 o 0)) fun p=>ae (ah (ak T 9 p)) fun q=>ae (ah (aa T 37 (.ip (ab f)) 0)) fun r=>ae (ah (ak T 9 r)) fun s=>ae (ah (au T .geq 9 q s)) fun u=>M.pure [u])) fun v=>ae (aw i false 1 (ae (ah (aO (nth k 0) (nth v 0) (.bool false))) fun w=>M.pure [w])) fun x=>ae (ah (aO i (.bool true) (nth x 0))) fun y=>aQ y (M.pure (AV.bool false)) (ae (ah (au T .add 3 (nth b 3) (.int .i64 1))) fun z=>a [nth b 0,nth b 1,nth b 2,z])) (M.pure (AV.bool true))
def XL17_0{call:CC}:cU (L17_0 call ai) fun _n=>L17_0 call ai  :=by
 intro a b c d;unfold L17_0;exact (lb fun _=>(aP (by(iterate 10 refine lb fun _=>?_);exact (aP (aL.const _) (lb fun _=>c _))) (aL.const _)))
def FL17_0(call:CC)(vs:List AV):ai (L17_0 call ai) vs=L17_0 call ai  (ai (L17_0 call ai)) vs:=bU (XL17_0) vs
def S17(call:CC)(fx:cd AV)(a0:AV):M AV:=ae (ah (aa T 32 (.ip (ab a0)) 0)) fun a=>ae (ah (ak T 9 a)) fun b=>ae (call 52 [b]) fun c=>ae (ah (jL UnOp.not c)) fun d=>ae (aw d false 1 (ae (ah (aa T 32 (.ip (ab a0)) 1)) fun e=>ae (ah (ak T 30 e)) fun f=>ae (ah (a7 T 30 f)) fun g=>ae (ah (au T .gtr 3 g (.int .i64 30))) fun h=>M.pure [h])) fun i=>ae (ah (aO d (.bool true) (nth i 0))) fun j=>aQ j (M.pure (AV.bool false)) (ae (ah (aa T 32 (.ip (ab a0)) 1)) fun k=>ae (ah (ak T 30 k)) fun l=>ae (ah (a7 T 30 l)) fun m=>fx (L17_0 call fx) [.ip (ab a0),l,m,.int .i64 0])
def E17(a0:AV):EE 17 Tryz.f17 xZ [a0] (fun c x=>S17 c x a0):=fun _ _=>by kernel_rfl
def C17(a0:AV):af pg 17 [a0]=aK (S17 (af pg) ai (cl ax a0)):=(ay hOther rfl rfl rfl _).trans (DL aK (E17 (cl ax a0) _ _))
def S26(call:CC)(fx:cd AV)(a0:AV):M AV:=ae (ah (ak T 35 (.ip (ab a0)))) fun a=>ae (call 67 [a,.int .i64 40,.int .i64 6]) fun b=>ae (ah (au T .leq 3 b (.int .i64 40))) fun c=>M.pure c
def E26(a0:AV):EE 26 Tryz.f26 x8 [a0] (fun c x=>S26 c x a0):=fun _ _=>by kernel_rfl
def C26(a0:AV):af pg 26 [a0]=aK (S26 (af pg) ai (cl ax a0)):=(ay hOther rfl rfl rfl _).trans (DL aK (E26 (cl ax a0) _ _))
def S31(call:CC)(fx:cd AV)(a0:AV):M AV:=ae (ah (au T .lss 3 a0 (.int .i64 0))) fun a=>aQ a (M.pure (AV.str [])) (ae (call 71 [a0]) fun b=>M.pure b)
def E31(a0:AV):EE 31 Tryz.f31 yb [a0] (fun c x=>S31 c x a0):=fun _ _=>by kernel_rfl
def C31(a0:AV):af pg 31 [a0]=aK (S31 (af pg) ai (cl ax a0)):=(ay hOther rfl rfl rfl _).trans (DL aK (E31 (cl ax a0) _ _))
def S38(call:CC)(fx:cd AV)(a0:AV):M AV:=ae (call 74 [a0,.int .u8 58,.int .i64 0]) fun a=>ae (ah (bE a0)) fun b=>ae (ah (aa T 99 b 0)) fun c=>ae (cC T 9 c) fun d=>ae (ah (a7 T 9 d)) fun e=>ae (ah (au T .gtr 3 a e)) fun f=>aQ f (ae (call 75 [a0]) fun g=>M.pure (AV.str [])) (ae (ah (bE a0)) fun h=>ae (ah (aa T 99 h 0)) fun i=>ae (cC T 9 i) fun j=>ae (ah (dj T 9 j none (some a) none)) fun k=>ae (ah (bE a0)) fun l=>ae (ah (aa T 99 l 0)) fun m=>ae (cC T 9 m) fun n=>ae (ah (dj T 9 n (some a) none none)) fun o=>ae (ah (bE a0)) fun p=>ae (ah (aa T 99 p 0)) fun q=>ae (cQ T 9 q o) fun r=>ae (call 76 [a0,.str [44]]) fun s=>ae (ah (bE a0)) fun u=>ae (ah (aa T 99 u 1)) fun v=>ae (cC T 4 v) fun w=>aQ w (M.pure (AV.str [])) (M.pure k))
def E38(a0:AV):EE 38 Tryz.f38 ye [a0] (fun c x=>S38 c x a0):=fun _ _=>by kernel_rfl
def C38(a0:AV):af pg 38 [a0]=S38 (af pg) ai a0:=(cq hOther rfl rfl rfl _).trans (E38 a0 _ _)
def S39(call:CC)(fx:cd AV)(a0:AV):M AV:=ae (call 74 [a0,.int .u8 59,.int .i64 0]) fun a=>M.pure a
def E39(a0:AV):EE 39 Tryz.f39 yf [a0] (fun c x=>S39 c x a0):=fun _ _=>by kernel_rfl
def C39(a0:AV):af pg 39 [a0]=S39 (af pg) ai a0:=(cq hOther rfl rfl rfl _).trans (E39 a0 _ _)
def S53(call:CC)(fx:cd AV)(a0:AV):M AV:=ae (ah (aa T 37 (.ip (ab a0)) 0)) fun a=>ae (ah (ak T 9 a)) fun b=>ae (call 52 [b]) fun c=>ae (ah (jL UnOp.not c)) fun d=>ae (aw d false 1 (ae (ah (aa T 37 (.ip (ab a0)) 1)) fun e=>ae (ah (ak T 33 e)) fun f=>ae (ah (a7 T 33 f)) fun g=>ae (ah (au T .gtr 3 g (.int .i64 6))) fun h=>M.pure [h])) fun i=>ae (ah (aO d (.bool true) (nth i 0))) fun j=>ae (aw j false 1 (ae (ah (aa T 37 (.ip (ab a0)) 3)) fun k=>ae (ah (ak T 3 k)) fun l=>ae (ah (au T .andNot 3 l (.int .i64 15))) fun m=>ae (ah (au T .neq 3 m (.int .i64 0))) fun n=>M.pure [n])) fun o=>ae (ah (aO j (.bool true) (nth o 0))) fun p=>ae (aw p false 1 (ae (ah (aa T 37 (.ip (ab a0)) 2)) fun q=>ae (ah (ak T 35 q)) fun r=>ae (call 83 [r]) fun s=>ae (ah (jL UnOp.not s)) fun u=>M.pure [u])) fun v=>ae (ah (aO p (.bool true) (nth v 0))) fun w=>aQ w (M.pure (AV.bool false)) (ae (ah (aa T 37 (.ip (ab a0)) 1)) fun x=>ae (ah (ak T 33 x)) fun y=>ae (call 84 [y,.fn (Fn.func 85) [] []]) fun z=>ae (ah (jL UnOp.not z)) fun A=>M.pure A)
def E53(a0:AV):EE 53 Tryz.f53 yl [a0] (fun c x=>S53 c x a0):=fun _ _=>by kernel_rfl
def C53(a0:AV):af pg 53 [a0]=aK (S53 (af pg) ai (cl ax a0)):=(ay hOther rfl rfl rfl _).trans (DL aK (E53 (cl ax a0) _ _))
def L61_0(call:CC)(fx:cd AV)(a:RR)(b:List AV):M AV:=ae (ah (au T .lss 3 (nth b 4) (nth b 3))) fun c=>aQ c (ae (ah (az T 33 (nth b 2) (nth b 4))) fun d=>ae (ah (ak T 35 d)) fun e=>ae (bo 2 e) fun f=>ae (ah (az T 33 (nth b 0) (nth b 4))) fun g=>ae (ah (ak T 35 g)) fun h=>ae (bo 2 h) fun i=>ae (ah (ak T 35 (.ip (ab f)))) fun j=>ae (ah (ak T 35 (.ip (ab i)))) fun k=>ae (dH call (nth b 1) [j,k]) fun l=>ae (ah (jL UnOp.not l)) fun m=>aQ m (M.pure (AV.bool false)) (ae (ah (au T .add 3 (nth b 4) (.int .i64 1))) fun n=>a [nth b 0,nth b 1,nth b 2,nth b 3,n])) (M.pure (AV.bool true))
def XL61_0{call:CC}:cU (L61_0 call ai) fun _n=>L61_0 call ai  :=by
 intro a b c d;unfold L61_0;exact (lb fun _=>(aP (by(iterate 10 refine lb fun _=>?_);exact (aP (aL.const _) (lb fun _=>c _))) (aL.const _)))
def FL61_0(call:CC)(vs:List AV):ai (L61_0 call ai) vs=L61_0 call ai  (ai (L61_0 call ai)) vs:=bU (XL61_0) vs
def S61(call:CC)(fx:cd AV)(a0 a1 a2:AV):M AV:=ae (ah (a7 T 33 a0)) fun a=>ae (ah (a7 T 33 a1)) fun b=>ae (ah (au T .neq 3 a b)) fun c=>aQ c (M.pure (AV.bool false)) (ae (ah (a7 T 33 a0)) fun d=>fx (L61_0 call fx) [a1,a2,a0,d,.int .i64 0])
def E61(a0 a1 a2:AV):EE 61 Tryz.f61 ym [a0,a1,a2] (fun c x=>S61 c x a0 a1 a2):=fun _ _=>by kernel_rfl
def C61(a0 a1 a2:AV):af pg 61 [a0,a1,a2]=aK (S61 (af pg) ai (cl ax a0) (cl ax a1) (cl ax a2)):=(ay hOther rfl rfl rfl _).trans (DL aK (E61 (cl ax a0) (cl ax a1) (cl ax a2) _ _))
def S62(call:CC)(fx:cd AV)(a0 a1:AV):M AV:=ae (ah (ak T 35 (.ip (ab a0)))) fun a=>ae (call 101 [a]) fun b=>ae (aw b true 1 (ae (ah (ak T 35 (.ip (ab a1)))) fun c=>ae (call 101 [c]) fun d=>M.pure [d])) fun e=>ae (ah (aO b (nth e 0) (.bool false))) fun f=>ae (aw f true 1 (ae (ah (ak T 35 (.ip (ab a0)))) fun g=>ae (ah (ak T 35 (.ip (ab a1)))) fun h=>ae (call 102 [g,h]) fun i=>M.pure [i])) fun j=>ae (ah (aO f (nth j 0) (.bool false))) fun k=>M.pure k
def E62(a0 a1:AV):EE 62 Tryz.f62 yn [a0,a1] (fun c x=>S62 c x a0 a1):=fun _ _=>by kernel_rfl
def C62(a0 a1:AV):af pg 62 [a0,a1]=aK (S62 (af pg) ai (cl ax a0) (cl ax a1)):=(ay hOther rfl rfl rfl _).trans (DL aK (E62 (cl ax a0) (cl ax a1) _ _))
def S74(call:CC)(fx:cd AV)(a0 a1 a2:AV):M AV:=ae (ah (bE a0)) fun a=>ae (ah (aa T 99 a 0)) fun b=>ae (cC T 9 b) fun c=>ae (ah (bE a0)) fun d=>ae (ah (aa T 99 d 0)) fun e=>ae (cC T 9 e) fun f=>ae (ah (a7 T 9 f)) fun g=>ae (ah (eO false [g,.int .i64 21])) fun h=>ae (ah (dj T 9 c none (some h) none)) fun i=>ae (call 109 [i,a1]) fun j=>ae (ah (au T .lss 3 j (.int .i64 0))) fun k=>aQ k (ae (call 75 [a0]) fun l=>M.pure (AV.int .i64 0)) (ae (ah (dj T 9 i none (some j) none)) fun m=>ae (call 110 [m]) fun n=>ae (ah (aZ n 0)) fun o=>ae (ah (aZ n 1)) fun p=>ae (ah (au T .neq 70 p AV.nili)) fun q=>ae (aw q false 1 (ae (ah (dj T 9 i none (some j) none)) fun r=>ae (call 70 [o]) fun s=>ae (ah (au T .neq 9 s r)) fun u=>M.pure [u])) fun v=>ae (ah (aO q (.bool true) (nth v 0))) fun w=>ae (aw w false 1 (ae (ah (au T .lss 3 o a2)) fun x=>M.pure [x])) fun y=>ae (ah (aO w (.bool true) (nth y 0))) fun z=>aQ z (ae (call 75 [a0]) fun A=>M.pure (AV.int .i64 0)) (ae (ah (bE a0)) fun B=>ae (ah (aa T 99 B 0)) fun C=>ae (cC T 9 C) fun D=>ae (ah (au T .add 3 j (.int .i64 1))) fun E=>ae (ah (dj T 9 D (some E) none none)) fun F=>ae (ah (bE a0)) fun G=>ae (ah (aa T 99 G 0)) fun H=>ae (cQ T 9 H F) fun I=>M.pure o))
def E74(a0 a1 a2:AV):EE 74 Tryz.f74 yq [a0,a1,a2] (fun c x=>S74 c x a0 a1 a2):=fun _ _=>by kernel_rfl
def C74(a0 a1 a2:AV):af pg 74 [a0,a1,a2]=S74 (af pg) ai a0 a1 a2:=(cq hOther rfl rfl rfl _).trans (E74 a0 a1 a2 _ _)
def S76(call:CC)(fx:cd AV)(a0 a1:AV):M AV:=ae (ah (bE a0)) fun a=>ae (ah (aa T 99 a 0)) fun b=>ae (cC T 9 b) fun c=>ae (call 111 [c,a1]) fun d=>ae (ah (aZ d 0)) fun e=>ae (ah (aZ d 1)) fun f=>ae (ah (bE a0)) fun g=>ae (ah (aa T 99 g 0)) fun h=>ae (cQ T 9 h e) fun i=>ae (ah (jL UnOp.not f)) fun j=>aQ j (ae (call 75 [a0]) fun k=>M.pure (AV.tup [])) (M.pure (AV.tup []))
def E76(a0 a1:AV):EE 76 Tryz.f76 yt [a0,a1] (fun c x=>S76 c x a0 a1):=fun _ _=>by kernel_rfl
def C76(a0 a1:AV):af pg 76 [a0,a1]=S76 (af pg) ai a0 a1:=(cq hOther rfl rfl rfl _).trans (E76 a0 a1 _ _)
def S84(call:CC)(fx:cd AV)(a0 a1:AV):M AV:=ae (call 119 [a0,a1]) fun a=>ae (ah (au T .geq 3 a (.int .i64 0))) fun b=>M.pure b
def E84(a0 a1:AV):EE 84 Tryz.f84 yw [a0,a1] (fun c x=>S84 c x a0 a1):=fun _ _=>by kernel_rfl
def C84(a0 a1:AV):af pg 84 [a0,a1]=aK (S84 (af pg) ai (cl ax a0) (cl ax a1)):=(ay hOther rfl rfl rfl _).trans (DL aK (E84 (cl ax a0) (cl ax a1) _ _))
def S111(call:CC)(fx:cd AV)(a0 a1:AV):M AV:=ae (call 144 [a0,a1]) fun a=>ae (ah (aZ a 0)) fun b=>ae (ah (aZ a 1)) fun c=>M.pure (AV.tup [b,c])
def E111(a0 a1:AV):EE 111 Tryz.f111 uB [a0,a1] (fun c x=>S111 c x a0 a1):=fun _ _=>by kernel_rfl
def C111(a0 a1:AV):af pg 111 [a0,a1]=aK (S111 (af pg) ai (cl ax a0) (cl ax a1)):=(ay hOther rfl rfl rfl _).trans (DL aK (E111 (cl ax a0) (cl ax a1) _ _))
def S116(call:CC)(fx:cd AV)(a0:AV):M AV:=ae (ah (au T .geq 5 a0 (.int .u8 48))) fun a=>ae (aw a true 1 (ae (ah (au T .leq 5 a0 (.int .u8 57))) fun b=>M.pure [b])) fun c=>ae (ah (aO a (nth c 0) (.bool false))) fun d=>M.pure d
def E116(a0:AV):EE 116 Tryz.f116 uF [a0] (fun c x=>S116 c x a0):=fun _ _=>by kernel_rfl
def C116(a0:AV):af pg 116 [a0]=aK (S116 (af pg) ai (cl ax a0)):=(ay hOther rfl rfl rfl _).trans (DL aK (E116 (cl ax a0) _ _))
def L118_0(call:CC)(fx:cd AV)(a:RR)(b:List AV):M AV:=ae (ah (au T .lss 3 (nth b 4) (nth b 3))) fun c=>aQ c (ae (ah (az T 23 (nth b 2) (nth b 4))) fun d=>ae (ah (ak T 55 d)) fun e=>ae (bo 3 e) fun f=>ae (ah (aa T 55 (.ip (ab f)) 0)) fun g=>ae (ah (ak T 9 g)) fun h=>ae (cu (call 52 [h])) fun i=>ae (ah (jL UnOp.not i)) fun j=>ae (aw j false 1 (ae (ah (au T .gtr 3 (nth b 4) (.int .i64 0))) fun k=>M.pure [k])) fun l=>ae (aw (nth l 0) true 1 (ae (ah (aa T 55 (.ip (ab f)) 0)) fun m=>ae (ah (ak T 9 m)) fun n=>ae (ah (aa T 35 (nth b 1) 1)) fun o=>ae (ah (ak T 23 o)) fun p=>ae (ah (au T .sub 3 (nth b 4) (.int .i64 1))) fun q=>ae (ah (az T 23 p q)) fun r=>ae (ah (aa T 55 r 0)) fun s=>ae (ah (ak T 9 s)) fun u=>ae (ah (au T .leq 9 n u)) fun v=>M.pure [v])) fun w=>ae (aw j false 1 (ae (ah (aO (nth l 0) (nth w 0) (.bool false))) fun x=>M.pure [x])) fun y=>ae (ah (aO j (.bool true) (nth y 0))) fun z=>ae (aw z false 1 (ae (ah (aa T 55 (.ip (ab f)) 1)) fun A=>ae (ah (ak T 35 A)) fun B=>ae (ah (au T .sub 3 (nth b 0) (.int .i64 1))) fun C=>ae (cu (call 118 [B,C])) fun D=>ae (ah (jL UnOp.not D)) fun E=>M.pure [E])) fun F=>ae (ah (aO z (.bool true) (nth F 0))) fun G=>aQ G (M.pure (AV.bool false)) (ae (ah (au T .add 3 (nth b 4) (.int .i64 1))) fun H=>a [nth b 0,nth b 1,nth b 2,nth b 3,H])) (M.pure (AV.bool true))
def XL118_0{call:CC}:cU (L118_0 call ai) fun _n=>L118_0 call ai  :=by
 intro a b c d;unfold L118_0;exact (lb fun _=>(aP (by(iterate 13 refine lb fun _=>?_);exact (aP (aL.const _) (lb fun _=>c _))) (aL.const _)))
def FL118_0(call:CC)(vs:List AV):ai (L118_0 call ai) vs=L118_0 call ai  (ai (L118_0 call ai)) vs:=bU (XL118_0) vs
def S118(call:CC)(fx:cd AV)(a0 a1:AV):M AV:=ae (ah (au T .eql 3 a1 (.int .i64 0))) fun a=>ae (aw a false 1 (ae (ah (aa T 35 (.ip (ab a0)) 0)) fun b=>ae (ah (ak T 3 b)) fun c=>ae (ah (au T .lss 3 c (.int .i64 0))) fun d=>M.pure [d])) fun e=>ae (ah (aO a (.bool true) (nth e 0))) fun f=>ae (aw f false 1 (ae (ah (aa T 35 (.ip (ab a0)) 0)) fun g=>ae (ah (ak T 3 g)) fun h=>ae (ah (au T .geq 3 h (.int .i64 3))) fun i=>M.pure [i])) fun j=>ae (ah (aO f (.bool true) (nth j 0))) fun k=>ae (aw k false 1 (ae (ah (aa T 35 (.ip (ab a0)) 1)) fun l=>ae (ah (ak T 23 l)) fun m=>ae (ah (a7 T 23 m)) fun n=>ae (ah (au T .gtr 3 n (.int .i64 8))) fun o=>M.pure [o])) fun p=>ae (ah (aO k (.bool true) (nth p 0))) fun q=>ae (aw q false 1 (ae (ah (aa T 35 (.ip (ab a0)) 0)) fun r=>ae (ah (ak T 3 r)) fun s=>ae (ah (au T .neq 3 s (.int .i64 2))) fun u=>M.pure [u])) fun v=>ae (aw (nth v 0) true 1 (ae (ah (aa T 35 (.ip (ab a0)) 1)) fun w=>ae (ah (ak T 23 w)) fun x=>ae (ah (a7 T 23 x)) fun y=>ae (ah (au T .gtr 3 y (.int .i64 0))) fun z=>M.pure [z])) fun A=>ae (aw q false 1 (ae (ah (aO (nth v 0) (nth A 0) (.bool false))) fun B=>M.pure [B])) fun C=>ae (ah (aO q (.bool true) (nth C 0))) fun D=>aQ D (M.pure (AV.bool false)) (ae (ah (aa T 35 (.ip (ab a0)) 1)) fun E=>ae (ah (ak T 23 E)) fun F=>ae (ah (a7 T 23 F)) fun G=>fx (L118_0 call fx) [a1,.ip (ab a0),F,G,.int .i64 0])
def E118(a0 a1:AV):EE 118 Tryz.f118 uG [a0,a1] (fun c x=>S118 c x a0 a1):=fun _ _=>by kernel_rfl
def C118(a0 a1:AV):af pg 118 [a0,a1]=aK (S118 (af pg) ai (cl ax a0) (cl ax a1)):=(ay hOther rfl rfl rfl _).trans (DL aK (E118 (cl ax a0) (cl ax a1) _ _))
def L155_0(call:CC)(fx:cd AV)(a:RR)(b:List AV):M AV:=ae (ah (au T .lss 3 (nth b 3) (nth b 2))) fun c=>aQ c (ae (ah (az T 23 (nth b 0) (nth b 3))) fun d=>ae (ah (ak T 55 d)) fun e=>ae (dH call (nth b 1) [e]) fun f=>aQ f (M.pure (nth b 3)) (ae (ah (au T .add 3 (nth b 3) (.int .i64 1))) fun g=>a [nth b 0,nth b 1,nth b 2,g])) (M.pure (AV.int .i64 (-1)))
def XL155_0{call:CC}:cU (L155_0 call ai) fun _n=>L155_0 call ai  :=by
 intro a b c d;unfold L155_0;exact (lb fun _=>(aP (lb fun _=>(lb fun _=>(lb fun _=>(aP (aL.const _) (lb fun _=>c _))))) (aL.const _)))
def FL155_0(call:CC)(vs:List AV):ai (L155_0 call ai) vs=L155_0 call ai  (ai (L155_0 call ai)) vs:=bU (XL155_0) vs
def S155(call:CC)(fx:cd AV)(a0 a1:AV):M AV:=ae (ah (a7 T 23 a0)) fun a=>fx (L155_0 call fx) [a0,a1,a,.int .i64 0]
def E155(a0 a1:AV):EE 155 Tryz.f155 uL [a0,a1] (fun c x=>S155 c x a0 a1):=fun _ _=>by kernel_rfl
def C155(a0 a1:AV):af pg 155 [a0,a1]=aK (S155 (af pg) ai (cl ax a0) (cl ax a1)):=(ay hOther rfl rfl rfl _).trans (DL aK (E155 (cl ax a0) (cl ax a1) _ _))
def S167(call:CC)(fx:cd AV)(a0 a1:AV):M AV:=ae (ah (a7 T 9 a0)) fun a=>ae (ah (a7 T 9 a1)) fun b=>ae (ah (au T .geq 3 a b)) fun c=>ae (aw c true 1 (ae (ah (a7 T 9 a1)) fun d=>ae (ah (dj T 9 a0 none (some d) none)) fun e=>ae (ah (au T .eql 9 e a1)) fun f=>M.pure [f])) fun g=>ae (ah (aO c (nth g 0) (.bool false))) fun h=>M.pure h
def E167(a0 a1:AV):EE 167 Tryz.f167 uM [a0,a1] (fun c x=>S167 c x a0 a1):=fun _ _=>by kernel_rfl
def C167(a0 a1:AV):af pg 167 [a0,a1]=aK (S167 (af pg) ai (cl ax a0) (cl ax a1)):=(ay hOther rfl rfl rfl _).trans (DL aK (E167 (cl ax a0) (cl ax a1) _ _))
def L8_0(call:CC)(fx:cd AV)(a:RR)(b:List AV):M AV:=ae (ah (aa T 37 (nth b 0) 1)) fun c=>ae (ah (ak T 33 c)) fun d=>ae (ah (a7 T 33 d)) fun e=>ae (ah (au T .lss 3 (nth b 1) e)) fun f=>ae (aw f true 1 (ae (ah (au T .lss 3 (nth b 1) (.int .i64 9))) fun g=>M.pure [g])) fun h=>ae (ah (aO f (nth h 0) (.bool false))) fun i=>aQ i (ae (ah (aa T 37 (nth b 0) 1)) fun j=>ae (ah (ak T 33 j)) fun k=>ae (ah (az T 33 k (nth b 1))) fun l=>ae (ah (ak T 35 l)) fun m=>ae (call 26 [m]) fun n=>ae (ah (jL UnOp.not n)) fun o=>aQ o (M.pure (AV.bool false)) (ae (ah (au T .add 3 (nth b 1) (.int .i64 1))) fun p=>a [nth b 0,p])) (ae (ah (aa T 37 (nth b 0) 1)) fun q=>ae (ah (ak T 33 q)) fun r=>ae (ah (a7 T 33 r)) fun s=>ae (ah (au T .leq 3 s (.int .i64 8))) fun u=>ae (aw u true 1 (ae (ah (aa T 37 (nth b 0) 2)) fun v=>ae (ah (ak T 35 v)) fun w=>ae (call 26 [w]) fun x=>M.pure [x])) fun y=>ae (ah (aO u (nth y 0) (.bool false))) fun z=>M.pure z)
def XL8_0{call:CC}:cU (L8_0 call ai) fun _n=>L8_0 call ai  :=by
 intro a b c d;unfold L8_0;exact (by(iterate 6 refine lb fun _=>?_);exact (aP (by(iterate 6 refine lb fun _=>?_);exact (aP (aL.const _) (lb fun _=>c _))) (aL.const _)))
def FL8_0(call:CC)(vs:List AV):ai (L8_0 call ai) vs=L8_0 call ai  (ai (L8_0 call ai)) vs:=bU (XL8_0) vs
def S8(call:CC)(fx:cd AV)(a0:AV):M AV:=fx (L8_0 call fx) [.ip (ab a0),.int .i64 0]
def E8(a0:AV):EE 8 Tryz.f8 AJ [a0] (fun c x=>S8 c x a0):=fun _ _=>by kernel_rfl
def C8(a0:AV):af pg 8 [a0]=aK (S8 (af pg) ai (cl ax a0)):=(ay hOther rfl rfl rfl _).trans (DL aK (E8 (cl ax a0) _ _))
def L9_0(call:CC)(fx:cd AV)(a:RR)(b:RR)(c:List AV):M AV:=ae (ah (au T .lss 3 (nth c 7) (nth c 6))) fun d=>aQ d (ae (ah (az T 33 (nth c 5) (nth c 7))) fun e=>ae (ah (ak T 35 e)) fun f=>ae (bo 2 f) fun g=>ae (ah (ak T 35 (.ip (ab g)))) fun h=>ae (call 32 [nth c 0,h]) fun i=>ae (ah (au T .add 3 (nth c 7) (.int .i64 1))) fun j=>b [nth c 0,nth c 1,nth c 2,nth c 3,nth c 4,nth c 5,nth c 6,j]) (ae (ah (aa T 37 (nth c 1) 2)) fun k=>ae (ah (ak T 35 k)) fun l=>ae (call 32 [nth c 0,l]) fun m=>ae (ah (aa T 37 (nth c 1) 3)) fun n=>ae (ah (ak T 3 n)) fun o=>ae (call 31 [o]) fun p=>ae (call 29 [nth c 0,p]) fun q=>ae (ah (au T .add 3 (nth c 4) (.int .i64 1))) fun r=>a [nth c 0,nth c 2,nth c 3,r])
def L9_1(call:CC)(fx:cd AV)(a:RR)(b:List AV):M AV:=ae (ah (au T .lss 3 (nth b 3) (nth b 2))) fun c=>aQ c (ae (ah (az T 30 (nth b 1) (nth b 3))) fun d=>ae (ah (ak T 37 d)) fun e=>ae (bo 5 e) fun f=>ae (ah (aa T 37 (.ip (ab f)) 0)) fun g=>ae (ah (ak T 9 g)) fun h=>ae (cu (call 30 [h])) fun i=>ae (ah (aa T 37 (.ip (ab f)) 1)) fun j=>ae (ah (ak T 33 j)) fun k=>ae (ah (a7 T 33 k)) fun l=>ae (cu (call 31 [l])) fun m=>ae (ah (au T .add 9 i m)) fun n=>ae (call 29 [nth b 0,n]) fun o=>ae (ah (aa T 37 (.ip (ab f)) 1)) fun p=>ae (ah (ak T 33 p)) fun q=>ae (ah (a7 T 33 q)) fun r=>fx (L9_0 call fx a) [nth b 0,.ip (ab f),nth b 1,nth b 2,nth b 3,q,r,.int .i64 0]) (ae (call 33 [nth b 0]) fun s=>M.pure (AV.tup [s,.int .i64 0]))
def XL9_0{call:CC}{a:RR}{b:Nat->RR}(c:bc a fun n=>b n):cU (L9_0 call ai a) fun n=>L9_0 call ai (b n):=by
 intro d e f g;unfold L9_0;exact (lb fun _=>(aP (by(iterate 6 refine lb fun _=>?_);exact (f _)) (by(iterate 8 refine lb fun _=>?_);exact (c _))))
def YL9_0{call:CC}{a:RR}{b:Nat->RR}(c:bc a fun n=>b n):bc (ai (L9_0 call ai a)) fun n=>ai (L9_0 call ai (b n)):=nW (XL9_0 c) (XL9_0 (bc.const _)) fun _=>XL9_0 (bc.const _)
def FL9_0(call:CC)(a:RR)(vs:List AV):ai (L9_0 call ai a) vs=L9_0 call ai a (ai (L9_0 call ai a)) vs:=bU (XL9_0 (bc.const _)) vs
def XL9_1{call:CC}:cU (L9_1 call ai) fun _n=>L9_1 call ai  :=by
 intro a b c d;unfold L9_1;exact (lb fun _=>(aP (by(iterate 15 refine lb fun _=>?_);exact ((YL9_0 c) _)) (aL.const _)))
def FL9_1(call:CC)(vs:List AV):ai (L9_1 call ai) vs=L9_1 call ai  (ai (L9_1 call ai)) vs:=bU (XL9_1) vs
def S9(call:CC)(fx:cd AV)(a0:AV):M AV:=ae (ah (ak T 32 (.ip (ab a0)))) fun a=>ae (call 17 [a]) fun b=>ae (ah (jL UnOp.not b)) fun c=>aQ c (M.pure (AV.tup [.str [],.int .i64 1])) (ae (qI 68 [AV.nilp,.hn]) fun d=>ae (ah (aa T 32 (.ip (ab a0)) 0)) fun e=>ae (ah (ak T 9 e)) fun f=>ae (cu (call 30 [f])) fun g=>ae (ah (aa T 32 (.ip (ab a0)) 1)) fun h=>ae (ah (ak T 30 h)) fun i=>ae (ah (a7 T 30 i)) fun j=>ae (cu (call 31 [j])) fun k=>ae (ah (au T .add 9 g k)) fun l=>ae (call 29 [d,l]) fun m=>ae (ah (aa T 32 (.ip (ab a0)) 1)) fun n=>ae (ah (ak T 30 n)) fun o=>ae (ah (a7 T 30 o)) fun p=>fx (L9_1 call fx) [d,o,p,.int .i64 0])
def E9(a0:AV):EE 9 Tryz.f9 AK [a0] (fun c x=>S9 c x a0):=fun _ _=>by kernel_rfl
def C9(a0:AV):af pg 9 [a0]=aK (S9 (af pg) ai (cl ax a0)):=(ay hOther rfl rfl rfl _).trans (DL aK (E9 (cl ax a0) _ _))
def S29(call:CC)(fx:cd AV)(a0 a1:AV):M AV:=ae (call 69 [a0]) fun a=>ae (ah (bE a0)) fun b=>ae (ah (aa T 68 b 1)) fun c=>ae (cC T 66 c) fun d=>ae (lM T 66 d a1) fun e=>ae (ah (bE a0)) fun f=>ae (ah (aa T 68 f 1)) fun g=>ae (cQ T 66 g e) fun h=>ae (ah (a7 T 9 a1)) fun i=>M.pure (AV.tup [i,AV.nili])
def E29(a0 a1:AV):EE 29 Tryz.f29 x9 [a0,a1] (fun c x=>S29 c x a0 a1):=fun _ _=>by kernel_rfl
def C29(a0 a1:AV):af pg 29 [a0,a1]=S29 (af pg) ai a0 a1:=(cq hOther rfl rfl rfl _).trans (E29 a0 a1 _ _)
def L32_0(call:CC)(fx:cd AV)(a:RR)(b:List AV):M AV:=ae (ah (au T .lss 3 (nth b 3) (nth b 2))) fun c=>aQ c (ae (ah (az T 23 (nth b 1) (nth b 3))) fun d=>ae (ah (ak T 55 d)) fun e=>ae (bo 3 e) fun f=>ae (ah (aa T 55 (.ip (ab f)) 0)) fun g=>ae (ah (ak T 9 g)) fun h=>ae (call 30 [h]) fun i=>ae (call 29 [nth b 0,i]) fun j=>ae (ah (aa T 55 (.ip (ab f)) 1)) fun k=>ae (ah (ak T 35 k)) fun l=>ae (call 32 [nth b 0,l]) fun m=>ae (ah (au T .add 3 (nth b 3) (.int .i64 1))) fun n=>a [nth b 0,nth b 1,nth b 2,n]) (M.pure (AV.tup []))
def XL32_0{call:CC}:cU (L32_0 call ai) fun _n=>L32_0 call ai  :=by
 intro a b c d;unfold L32_0;exact (lb fun _=>(aP (by(iterate 11 refine lb fun _=>?_);exact (c _)) (aL.const _)))
def FL32_0(call:CC)(vs:List AV):ai (L32_0 call ai) vs=L32_0 call ai  (ai (L32_0 call ai)) vs:=bU (XL32_0) vs
def S32(call:CC)(fx:cd AV)(a0 a1:AV):M AV:=ae (ah (aa T 35 (.ip (ab a1)) 0)) fun a=>ae (ah (ak T 3 a)) fun b=>ae (call 31 [b]) fun c=>ae (call 29 [a0,c]) fun d=>ae (ah (aa T 35 (.ip (ab a1)) 0)) fun e=>ae (ah (ak T 3 e)) fun f=>ae (ah (au T .neq 3 f (.int .i64 2))) fun g=>aQ g (M.pure (AV.tup [])) (ae (ah (aa T 35 (.ip (ab a1)) 1)) fun h=>ae (ah (ak T 23 h)) fun i=>ae (ah (a7 T 23 i)) fun j=>ae (call 31 [j]) fun k=>ae (call 29 [a0,k]) fun l=>ae (ah (aa T 35 (.ip (ab a1)) 1)) fun m=>ae (ah (ak T 23 m)) fun n=>ae (ah (a7 T 23 n)) fun o=>fx (L32_0 call fx) [a0,n,o,.int .i64 0])
def E32(a0 a1:AV):EE 32 Tryz.f32 yc [a0,a1] (fun c x=>S32 c x a0 a1):=fun _ _=>by kernel_rfl
def C32(a0 a1:AV):af pg 32 [a0,a1]=S32 (af pg) ai a0 a1:=(cq hOther rfl rfl rfl _).trans (E32 a0 a1 _ _)
def S52(call:CC)(fx:cd AV)(a0:AV):M AV:=ae (call 81 [a0]) fun a=>ae (aw a true 1 (ae (ah (au T .add 9 (.str [32]) a0)) fun b=>ae (ah (au T .add 9 b (.str [32]))) fun c=>ae (call 82 [.str [32,97,110,100,32,98,97,99,107,32,98,111,111,108,32,99,108,111,99,107,32,101,108,115,101,32,102,97,108,115,101,32,102,105,108,101,115,32,102,110,32,102,111,114,119,97,114,100,32,103,101,116,32,105,102,32,105,110,32,105,110,116,32,108,101,116,32,109,111,100,117,108,101,32,109,111,118,101,32,110,101,116,32,110,111,116,32,111,114,32,112,117,98,32,115,101,99,114,101,116,115,32,115,101,116,32,116,104,101,110,32,116,114,117,101,32,117,115,101,32,118,97,114,32],c]) fun d=>ae (ah (jL UnOp.not d)) fun e=>M.pure [e])) fun f=>ae (ah (aO a (nth f 0) (.bool false))) fun g=>M.pure g
def E52(a0:AV):EE 52 Tryz.f52 yk [a0] (fun c x=>S52 c x a0):=fun _ _=>by kernel_rfl
def C52(a0:AV):af pg 52 [a0]=aK (S52 (af pg) ai (cl ax a0)):=(ay hOther rfl rfl rfl _).trans (DL aK (E52 (cl ax a0) _ _))
def S58(call:CC)(fx:cd AV)(a0 a1:AV):M AV:=ae (ah (aa T 37 (.ip (ab a0)) 0)) fun a=>ae (ah (ak T 9 a)) fun b=>ae (ah (aa T 37 (.ip (ab a1)) 0)) fun c=>ae (ah (ak T 9 c)) fun d=>ae (call 59 [b,d]) fun e=>M.pure e
def E58(a0 a1:AV):EE 58 Tryz.f58 uO [a0,a1] (fun c x=>S58 c x a0 a1):=fun _ _=>by kernel_rfl
def C58(a0 a1:AV):af pg 58 [a0,a1]=aK (S58 (af pg) ai (cl ax a0) (cl ax a1)):=(ay hOther rfl rfl rfl _).trans (DL aK (E58 (cl ax a0) (cl ax a1) _ _))
def S59(call:CC)(fx:cd AV)(a0 a1:AV):M AV:=ae (call 95 [a0]) fun a=>ae (call 95 [a1]) fun b=>aQ a (aQ b (M.pure (AV.int .i64 0)) (M.pure (AV.int .i64 (-1)))) (aQ b (M.pure (AV.int .i64 1)) (ae (ah (au T .lss 9 a0 a1)) fun c=>aQ c (M.pure (AV.int .i64 (-1))) (ae (ah (au T .gtr 9 a0 a1)) fun d=>aQ d (M.pure (AV.int .i64 1)) (M.pure (AV.int .i64 0)))))
def E59(a0 a1:AV):EE 59 Tryz.f59 uP [a0,a1] (fun c x=>S59 c x a0 a1):=fun _ _=>by kernel_rfl
def C59(a0 a1:AV):af pg 59 [a0,a1]=aK (S59 (af pg) ai (cl ax a0) (cl ax a1)):=(ay hOther rfl rfl rfl _).trans (DL aK (E59 (cl ax a0) (cl ax a1) _ _))
def S71(call:CC)(fx:cd AV)(a0:AV):M AV:=ae (call 70 [a0]) fun a=>ae (ah (au T .add 9 a (.str [59]))) fun b=>M.pure b
def E71(a0:AV):EE 71 Tryz.f71 yp [a0] (fun c x=>S71 c x a0):=fun _ _=>by kernel_rfl
def C71(a0:AV):af pg 71 [a0]=aK (S71 (af pg) ai (cl ax a0)):=(ay hOther rfl rfl rfl _).trans (DL aK (E71 (cl ax a0) _ _))
def S81(call:CC)(fx:cd AV)(a0:AV):M AV:=ae (ah (au T .eql 9 a0 (.str []))) fun a=>ae (aw a false 1 (ae (ah (d8 T 9 a0 (.int .i64 0))) fun b=>ae (call 113 [b]) fun c=>ae (ah (jL UnOp.not c)) fun d=>M.pure [d])) fun e=>ae (ah (aO a (.bool true) (nth e 0))) fun f=>ae (aw f false 1 (ae (ah (a7 T 9 a0)) fun g=>ae (ah (au T .gtr 3 g (.int .i64 20))) fun h=>M.pure [h])) fun i=>ae (ah (aO f (.bool true) (nth i 0))) fun j=>aQ j (M.pure (AV.bool false)) (ae (call 114 [a0,.fn (Fn.func 115) [] []]) fun k=>ae (ah (a7 T 9 a0)) fun l=>ae (ah (au T .eql 3 k l)) fun m=>M.pure m)
def E81(a0:AV):EE 81 Tryz.f81 yu [a0] (fun c x=>S81 c x a0):=fun _ _=>by kernel_rfl
def C81(a0:AV):af pg 81 [a0]=aK (S81 (af pg) ai (cl ax a0)):=(ay hOther rfl rfl rfl _).trans (DL aK (E81 (cl ax a0) _ _))
def S85(call:CC)(fx:cd AV)(a0:AV):M AV:=ae (ah (ak T 35 (.ip (ab a0)))) fun a=>ae (call 83 [a]) fun b=>ae (ah (jL UnOp.not b)) fun c=>M.pure c
def E85(a0:AV):EE 85 Tryz.f85 yx [a0] (fun c x=>S85 c x a0):=fun _ _=>by kernel_rfl
def C85(a0:AV):af pg 85 [a0]=aK (S85 (af pg) ai (cl ax a0)):=(ay hOther rfl rfl rfl _).trans (DL aK (E85 (cl ax a0) _ _))
def S95(call:CC)(fx:cd AV)(a0:AV):M AV:=ae (ah (au T .neq 9 a0 a0)) fun a=>M.pure a
def E95(a0:AV):EE 95 Tryz.f95 uQ [a0] (fun c x=>S95 c x a0):=fun _ _=>by kernel_rfl
def C95(a0:AV):af pg 95 [a0]=aK (S95 (af pg) ai (cl ax a0)):=(ay hOther rfl rfl rfl _).trans (DL aK (E95 (cl ax a0) _ _))
def S102(call:CC)(fx:cd AV)(a0 a1:AV):M AV:=ae (ah (aa T 35 (.ip (ab a0)) 0)) fun a=>ae (ah (ak T 3 a)) fun b=>ae (ah (aa T 35 (.ip (ab a1)) 0)) fun c=>ae (ah (ak T 3 c)) fun d=>ae (ah (au T .eql 3 b d)) fun e=>ae (aw e true 1 (ae (ah (aa T 35 (.ip (ab a1)) 1)) fun f=>ae (ah (ak T 23 f)) fun g=>ae (call 136 [g,.fn (Fn.func 137) [] [.ip (ab a0)]]) fun h=>ae (ah (jL UnOp.not h)) fun i=>M.pure [i])) fun j=>ae (ah (aO e (nth j 0) (.bool false))) fun k=>M.pure k
def E102(a0 a1:AV):EE 102 Tryz.f102 uA [a0,a1] (fun c x=>S102 c x a0 a1):=fun _ _=>by kernel_rfl
def C102(a0 a1:AV):af pg 102 [a0,a1]=aK (S102 (af pg) ai (cl ax a0) (cl ax a1)):=(ay hOther rfl rfl rfl _).trans (DL aK (E102 (cl ax a0) (cl ax a1) _ _))
def S113(call:CC)(fx:cd AV)(a0:AV):M AV:=ae (ah (au T .geq 5 a0 (.int .u8 97))) fun a=>ae (aw a true 1 (ae (ah (au T .leq 5 a0 (.int .u8 122))) fun b=>M.pure [b])) fun c=>ae (ah (aO a (nth c 0) (.bool false))) fun d=>M.pure d
def E113(a0:AV):EE 113 Tryz.f113 uC [a0] (fun c x=>S113 c x a0):=fun _ _=>by kernel_rfl
def C113(a0:AV):af pg 113 [a0]=aK (S113 (af pg) ai (cl ax a0)):=(ay hOther rfl rfl rfl _).trans (DL aK (E113 (cl ax a0) _ _))
def L114_0(call:CC)(fx:cd AV)(a:RR)(b:List AV):M AV:=ae (ah (a7 T 9 (nth b 0))) fun c=>ae (ah (au T .lss 3 (nth b 2) c)) fun d=>ae (aw d true 1 (ae (ah (d8 T 9 (nth b 0) (nth b 2))) fun e=>ae (dH call (nth b 1) [e]) fun f=>M.pure [f])) fun g=>ae (ah (aO d (nth g 0) (.bool false))) fun h=>aQ h (ae (ah (au T .add 3 (nth b 2) (.int .i64 1))) fun i=>a [nth b 0,nth b 1,i]) (M.pure (nth b 2))
def XL114_0{call:CC}:cU (L114_0 call ai) fun _n=>L114_0 call ai  :=by
 intro a b c d;unfold L114_0;exact (lb fun _=>(lb fun _=>(lb fun _=>(lb fun _=>(aP (lb fun _=>c _) (aL.const _))))))
def FL114_0(call:CC)(vs:List AV):ai (L114_0 call ai) vs=L114_0 call ai  (ai (L114_0 call ai)) vs:=bU (XL114_0) vs
def S114(call:CC)(fx:cd AV)(a0 a1:AV):M AV:=fx (L114_0 call fx) [a0,a1,.int .i64 0]
def E114(a0 a1:AV):EE 114 Tryz.f114 uD [a0,a1] (fun c x=>S114 c x a0 a1):=fun _ _=>by kernel_rfl
def C114(a0 a1:AV):af pg 114 [a0,a1]=aK (S114 (af pg) ai (cl ax a0) (cl ax a1)):=(ay hOther rfl rfl rfl _).trans (DL aK (E114 (cl ax a0) (cl ax a1) _ _))
def S115(call:CC)(fx:cd AV)(a0:AV):M AV:=ae (call 113 [a0]) fun a=>ae (aw a false 1 (ae (call 116 [a0]) fun b=>M.pure [b])) fun c=>ae (ah (aO a (.bool true) (nth c 0))) fun d=>M.pure d
def E115(a0:AV):EE 115 Tryz.f115 uE [a0] (fun c x=>S115 c x a0):=fun _ _=>by kernel_rfl
def C115(a0:AV):af pg 115 [a0]=aK (S115 (af pg) ai (cl ax a0)):=(ay hOther rfl rfl rfl _).trans (DL aK (E115 (cl ax a0) _ _))
def S136(call:CC)(fx:cd AV)(a0 a1:AV):M AV:=ae (call 155 [a0,a1]) fun a=>ae (ah (au T .geq 3 a (.int .i64 0))) fun b=>M.pure b
def E136(a0 a1:AV):EE 136 Tryz.f136 uI [a0,a1] (fun c x=>S136 c x a0 a1):=fun _ _=>by kernel_rfl
def C136(a0 a1:AV):af pg 136 [a0,a1]=aK (S136 (af pg) ai (cl ax a0) (cl ax a1)):=(ay hOther rfl rfl rfl _).trans (DL aK (E136 (cl ax a0) (cl ax a1) _ _))
def L11_0(call:CC)(fx:cd AV)(a:RR)(b:RR)(c:List AV):M AV:=ae (ah (a7 T 33 (nth c 9))) fun d=>ae (ah (au T .lss 3 d (nth c 3))) fun e=>ae (aw e true 1 (ae (ah (a7 T 33 (nth c 9))) fun f=>ae (ah (au T .leq 3 f (.int .i64 6))) fun g=>M.pure [g])) fun h=>ae (ah (aO e (nth h 0) (.bool false))) fun i=>ae (aw i true 1 (ae (call 40 [nth c 1]) fun j=>ae (ah (au T .gtr 3 j (.int .i64 0))) fun k=>M.pure [k])) fun l=>ae (ah (aO i (nth l 0) (.bool false))) fun m=>aQ m (ae (call 41 [nth c 1,.int .i64 4]) fun n=>ae (ah (bM T 33 1 [(0,n)])) fun o=>ae (ah (eH T 33 (nth c 9) o)) fun p=>ae (cK p) fun q=>b [nth c 0,nth c 1,nth c 2,nth c 3,nth c 4,nth c 5,nth c 6,nth c 7,nth c 8,p,nth c 10,nth c 11,nth c 12]) (ae (call 41 [nth c 1,.int .i64 4]) fun r=>ae (aG 2 [] r) fun s=>ae (call 39 [nth c 1]) fun u=>ae (cK u) fun v=>ae (ah (bM T 30 1 [(0,.agg [nth c 8,nth c 9,nth (ab s) 0,nth (ab s) 1,u])])) fun w=>ae (ah (eH T 30 (nth c 7) w)) fun x=>ae (cK x) fun y=>a [nth c 0,nth c 1,nth c 2,nth c 4,nth c 5,nth c 6,x])
def L11_1(call:CC)(fx:cd AV)(a:RR)(b:List AV):M AV:=ae (ah (a7 T 30 (nth b 6))) fun c=>ae (ah (au T .lss 3 c (nth b 2))) fun d=>ae (aw d true 1 (ae (ah (a7 T 30 (nth b 6))) fun e=>ae (ah (au T .leq 3 e (.int .i64 30))) fun f=>M.pure [f])) fun g=>ae (ah (aO d (nth g 0) (.bool false))) fun h=>ae (aw h true 1 (ae (call 40 [nth b 1]) fun i=>ae (ah (au T .gtr 3 i (.int .i64 0))) fun j=>M.pure [j])) fun k=>ae (ah (aO h (nth k 0) (.bool false))) fun l=>aQ l (ae (call 38 [nth b 1]) fun m=>ae (ah (db T true 37 [(0,m)])) fun n=>ae (aG 5 [1] n) fun o=>ae (call 39 [nth b 1]) fun p=>fx (L11_0 call fx a) [nth b 0,nth b 1,nth b 2,p,nth b 3,nth b 4,nth b 5,nth b 6,nth (ab o) 0,.sl [],nth (ab o) 2,nth (ab o) 3,nth (ab o) 4]) (ae (call 9 [.agg [nth b 5,nth b 6]]) fun q=>ae (ah (aZ q 0)) fun r=>ae (ah (aZ q 1)) fun s=>ae (ah (au T .neq 42 s (.int .i64 0))) fun u=>ae (aw u false 1 (ae (ah (au T .neq 9 r (nth b 0))) fun v=>M.pure [v])) fun w=>ae (ah (aO u (.bool true) (nth w 0))) fun x=>aQ x (ae (ah (db T false 32 [])) fun y=>ae (aG 2 [] y) fun z=>M.pure (AV.tup [.agg [nth (ab z) 0,nth (ab z) 1],.int .i64 2])) (ae (aG 2 [] (.agg [nth b 5,nth b 6])) fun A=>M.pure (AV.tup [.agg [nth (ab A) 0,nth (ab A) 1],.int .i64 0])))
def XL11_0{call:CC}{a:RR}{b:Nat->RR}(c:bc a fun n=>b n):cU (L11_0 call ai a) fun n=>L11_0 call ai (b n):=by
 intro d e f g;unfold L11_0;exact (by(iterate 6 refine lb fun _=>?_);exact (aP (lb fun _=>(lb fun _=>(lb fun _=>(lb fun _=>f _)))) (by(iterate 7 refine lb fun _=>?_);exact (c _))))
def YL11_0{call:CC}{a:RR}{b:Nat->RR}(c:bc a fun n=>b n):bc (ai (L11_0 call ai a)) fun n=>ai (L11_0 call ai (b n)):=nW (XL11_0 c) (XL11_0 (bc.const _)) fun _=>XL11_0 (bc.const _)
def FL11_0(call:CC)(a:RR)(vs:List AV):ai (L11_0 call ai a) vs=L11_0 call ai a (ai (L11_0 call ai a)) vs:=bU (XL11_0 (bc.const _)) vs
def XL11_1{call:CC}:cU (L11_1 call ai) fun _n=>L11_1 call ai  :=by
 intro a b c d;unfold L11_1;exact (by(iterate 6 refine lb fun _=>?_);exact (aP (lb fun _=>(lb fun _=>(lb fun _=>(lb fun _=>((YL11_0 c) _))))) (aL.const _)))
def FL11_1(call:CC)(vs:List AV):ai (L11_1 call ai) vs=L11_1 call ai  (ai (L11_1 call ai)) vs:=bU (XL11_1) vs
def S11(call:CC)(fx:cd AV)(a0:AV):M AV:=ae (call 37 [a0]) fun a=>ae (call 38 [a]) fun b=>ae (ah (db T true 32 [(0,b)])) fun c=>ae (aG 2 [1] c) fun d=>ae (call 39 [a]) fun e=>fx (L11_1 call fx) [a0,a,e,.str [],.sl [],nth (ab d) 0,.sl []]
def E11(a0:AV):EE 11 Tryz.f11 xW [a0] (fun c x=>S11 c x a0):=fun _ _=>by kernel_rfl
def C11(a0:AV):af pg 11 [a0]=aK (S11 (af pg) ai (cl ax a0)):=(ay hOther rfl rfl rfl _).trans (DL aK (E11 (cl ax a0) _ _))
def L15_0(call:CC)(fx:cd AV)(a:RR)(b:List AV):M AV:=ae (ah (aa T 32 (nth b 0) 1)) fun c=>ae (ah (ak T 30 c)) fun d=>ae (ah (a7 T 30 d)) fun e=>ae (ah (au T .lss 3 (nth b 2) e)) fun f=>aQ f (ae (ah (aa T 32 (nth b 0) 1)) fun g=>ae (ah (ak T 30 g)) fun h=>ae (ah (az T 30 h (nth b 2))) fun i=>ae (ah (ak T 37 i)) fun j=>ae (ah (aa T 32 (nth b 1) 1)) fun k=>ae (ah (ak T 30 k)) fun l=>ae (ah (az T 30 l (nth b 2))) fun m=>ae (ah (ak T 37 m)) fun n=>ae (cu (call 16 [j,n])) fun o=>ae (ah (jL UnOp.not o)) fun p=>aQ p (M.pure (AV.bool false)) (ae (ah (au T .add 3 (nth b 2) (.int .i64 1))) fun q=>a [nth b 0,nth b 1,q])) (M.pure (AV.bool true))
def XL15_0{call:CC}:cU (L15_0 call ai) fun _n=>L15_0 call ai  :=by
 intro a b c d;unfold L15_0;exact (lb fun _=>(lb fun _=>(lb fun _=>(lb fun _=>(aP (by(iterate 10 refine lb fun _=>?_);exact (aP (aL.const _) (lb fun _=>c _))) (aL.const _))))))
def FL15_0(call:CC)(vs:List AV):ai (L15_0 call ai) vs=L15_0 call ai  (ai (L15_0 call ai)) vs:=bU (XL15_0) vs
def S15(call:CC)(fx:cd AV)(a0 a1:AV):M AV:=ae (ah (aa T 32 (.ip (ab a0)) 0)) fun a=>ae (ah (ak T 9 a)) fun b=>ae (ah (aa T 32 (.ip (ab a1)) 0)) fun c=>ae (ah (ak T 9 c)) fun d=>ae (ah (au T .neq 9 b d)) fun e=>ae (aw e false 1 (ae (ah (aa T 32 (.ip (ab a0)) 1)) fun f=>ae (ah (ak T 30 f)) fun g=>ae (ah (a7 T 30 g)) fun h=>ae (ah (aa T 32 (.ip (ab a1)) 1)) fun i=>ae (ah (ak T 30 i)) fun j=>ae (ah (a7 T 30 j)) fun k=>ae (ah (au T .neq 3 h k)) fun l=>M.pure [l])) fun m=>ae (ah (aO e (.bool true) (nth m 0))) fun n=>aQ n (M.pure (AV.bool false)) (fx (L15_0 call fx) [.ip (ab a0),.ip (ab a1),.int .i64 0])
def E15(a0 a1:AV):EE 15 Tryz.f15 xX [a0,a1] (fun c x=>S15 c x a0 a1):=fun _ _=>by kernel_rfl
def C15(a0 a1:AV):af pg 15 [a0,a1]=aK (S15 (af pg) ai (cl ax a0) (cl ax a1)):=(ay hOther rfl rfl rfl _).trans (DL aK (E15 (cl ax a0) (cl ax a1) _ _))
def S21(call:CC)(fx:cd AV)(a0 a1:AV):M AV:=ae (ah (aa T 37 (.ip (ab a1)) 1)) fun a=>ae (ah (ak T 33 a)) fun b=>ae (ah (aa T 37 (.ip (ab a0)) 1)) fun c=>ae (ah (ak T 33 c)) fun d=>ae (call 61 [b,d,.fn (Fn.func 62) [] []]) fun e=>ae (aw e true 1 (ae (ah (aa T 37 (.ip (ab a0)) 2)) fun f=>ae (ah (ak T 35 f)) fun g=>ae (ah (aa T 37 (.ip (ab a1)) 2)) fun h=>ae (ah (ak T 35 h)) fun i=>ae (call 62 [g,i]) fun j=>M.pure [j])) fun k=>ae (ah (aO e (nth k 0) (.bool false))) fun l=>ae (aw l true 1 (ae (ah (aa T 37 (.ip (ab a0)) 3)) fun m=>ae (ah (ak T 3 m)) fun n=>ae (ah (aa T 37 (.ip (ab a1)) 3)) fun o=>ae (ah (ak T 3 o)) fun p=>ae (ah (au T .andNot 3 n p)) fun q=>ae (ah (au T .eql 3 q (.int .i64 0))) fun r=>M.pure [r])) fun s=>ae (ah (aO l (nth s 0) (.bool false))) fun u=>M.pure u
def E21(a0 a1:AV):EE 21 Tryz.f21 x7 [a0,a1] (fun c x=>S21 c x a0 a1):=fun _ _=>by kernel_rfl
def C21(a0 a1:AV):af pg 21 [a0,a1]=aK (S21 (af pg) ai (cl ax a0) (cl ax a1)):=(ay hOther rfl rfl rfl _).trans (DL aK (E21 (cl ax a0) (cl ax a1) _ _))
def S30(call:CC)(fx:cd AV)(a0:AV):M AV:=ae (ah (a7 T 9 a0)) fun a=>ae (call 70 [a]) fun b=>ae (ah (au T .add 9 b (.str [58]))) fun c=>ae (ah (au T .add 9 c a0)) fun d=>ae (ah (au T .add 9 d (.str [44]))) fun e=>M.pure e
def E30(a0:AV):EE 30 Tryz.f30 ya [a0] (fun c x=>S30 c x a0):=fun _ _=>by kernel_rfl
def C30(a0:AV):af pg 30 [a0]=aK (S30 (af pg) ai (cl ax a0)):=(ay hOther rfl rfl rfl _).trans (DL aK (E30 (cl ax a0) _ _))
def S37(call:CC)(fx:cd AV)(a0:AV):M AV:=ae (ah (db T true 99 [(0,a0)])) fun a=>ae (newH (ab a)) fun b=>M.pure b
def E37(a0:AV):EE 37 Tryz.f37 yd [a0] (fun c x=>S37 c x a0):=fun _ _=>by kernel_rfl
def C37(a0:AV):af pg 37 [a0]=S37 (af pg) ai a0:=(cq hOther rfl rfl rfl _).trans (E37 a0 _ _)
def S40(call:CC)(fx:cd AV)(a0:AV):M AV:=ae (ah (bE a0)) fun a=>ae (ah (aa T 99 a 0)) fun b=>ae (cC T 9 b) fun c=>ae (ah (a7 T 9 c)) fun d=>M.pure d
def E40(a0:AV):EE 40 Tryz.f40 yg [a0] (fun c x=>S40 c x a0):=fun _ _=>by kernel_rfl
def C40(a0:AV):af pg 40 [a0]=S40 (af pg) ai a0:=(cq hOther rfl rfl rfl _).trans (E40 a0 _ _)
def L41_0(call:CC)(fx:cd AV)(a:RR)(b:List AV):M AV:=ae (ah (a7 T 23 (nth b 6))) fun c=>ae (ah (au T .lss 3 c (nth b 2))) fun d=>ae (aw d true 1 (ae (ah (a7 T 23 (nth b 6))) fun e=>ae (ah (au T .leq 3 e (.int .i64 8))) fun f=>M.pure [f])) fun g=>ae (ah (aO d (nth g 0) (.bool false))) fun h=>ae (aw h true 1 (ae (call 40 [nth b 0]) fun i=>ae (ah (au T .gtr 3 i (.int .i64 0))) fun j=>M.pure [j])) fun k=>ae (ah (aO h (nth k 0) (.bool false))) fun l=>aQ l (ae (call 38 [nth b 0]) fun m=>ae (ah (db T false 55 [(0,m)])) fun n=>ae (aG 3 [] n) fun o=>ae (ah (au T .sub 3 (nth b 1) (.int .i64 1))) fun p=>ae (call 41 [nth b 0,p]) fun q=>ae (aG 2 [] q) fun r=>ae (ah (bM T 23 1 [(0,.agg [nth (ab o) 0,nth (ab r) 0,nth (ab r) 1])])) fun s=>ae (ah (eH T 23 (nth b 6) s)) fun u=>ae (cK u) fun v=>a [nth b 0,nth b 1,nth b 2,nth b 3,nth b 4,nth b 5,u]) (ae (aG 2 [] (.agg [nth b 5,nth b 6])) fun w=>M.pure (AV.agg [nth (ab w) 0,nth (ab w) 1]))
def XL41_0{call:CC}:cU (L41_0 call ai) fun _n=>L41_0 call ai  :=by
 intro a b c d;unfold L41_0;exact (by(iterate 6 refine lb fun _=>?_);exact (aP (by(iterate 9 refine lb fun _=>?_);exact (c _)) (aL.const _)))
def FL41_0(call:CC)(vs:List AV):ai (L41_0 call ai) vs=L41_0 call ai  (ai (L41_0 call ai)) vs:=bU (XL41_0) vs
def S41(call:CC)(fx:cd AV)(a0 a1:AV):M AV:=ae (call 39 [a0]) fun a=>ae (ah (db T true 35 [(0,a)])) fun b=>ae (aG 2 [1] b) fun c=>ae (ah (au T .neq 3 (nth (ab c) 0) (.int .i64 2))) fun d=>ae (aw d false 1 (ae (ah (au T .eql 3 a1 (.int .i64 0))) fun e=>M.pure [e])) fun f=>ae (ah (aO d (.bool true) (nth f 0))) fun g=>aQ g (ae (aG 2 [] (.agg [nth (ab c) 0,.sl []])) fun h=>M.pure (AV.agg [nth (ab h) 0,nth (ab h) 1])) (ae (call 39 [a0]) fun i=>fx (L41_0 call fx) [a0,a1,i,.int .i64 0,.sl [],nth (ab c) 0,.sl []])
def E41(a0 a1:AV):EE 41 Tryz.f41 yh [a0,a1] (fun c x=>S41 c x a0 a1):=fun _ _=>by kernel_rfl
def C41(a0 a1:AV):af pg 41 [a0,a1]=S41 (af pg) ai a0 a1:=(cq hOther rfl rfl rfl _).trans (E41 a0 a1 _ _)
def L51_0(call:CC)(fx:cd AV)(a:RR)(b:List AV):M AV:=ae (ah (aa T 35 (nth b 0) 1)) fun c=>ae (ah (ak T 23 c)) fun d=>ae (ah (a7 T 23 d)) fun e=>ae (ah (au T .lss 3 (nth b 2) e)) fun f=>aQ f (ae (ah (aa T 35 (nth b 0) 1)) fun g=>ae (ah (ak T 23 g)) fun h=>ae (ah (az T 23 h (nth b 2))) fun i=>ae (ah (aa T 55 i 0)) fun j=>ae (ah (ak T 9 j)) fun k=>ae (ah (aa T 35 (nth b 1) 1)) fun l=>ae (ah (ak T 23 l)) fun m=>ae (ah (az T 23 m (nth b 2))) fun n=>ae (ah (aa T 55 n 0)) fun o=>ae (ah (ak T 9 o)) fun p=>ae (ah (au T .neq 9 k p)) fun q=>ae (aw q false 1 (ae (ah (aa T 35 (nth b 0) 1)) fun r=>ae (ah (ak T 23 r)) fun s=>ae (ah (az T 23 s (nth b 2))) fun u=>ae (ah (aa T 55 u 1)) fun v=>ae (ah (ak T 35 v)) fun w=>ae (ah (aa T 35 (nth b 1) 1)) fun x=>ae (ah (ak T 23 x)) fun y=>ae (ah (az T 23 y (nth b 2))) fun z=>ae (ah (aa T 55 z 1)) fun A=>ae (ah (ak T 35 A)) fun B=>ae (cu (call 51 [w,B])) fun C=>ae (ah (jL UnOp.not C)) fun D=>M.pure [D])) fun E=>ae (ah (aO q (.bool true) (nth E 0))) fun F=>aQ F (M.pure (AV.bool false)) (ae (ah (au T .add 3 (nth b 2) (.int .i64 1))) fun G=>a [nth b 0,nth b 1,G])) (M.pure (AV.bool true))
def XL51_0{call:CC}:cU (L51_0 call ai) fun _n=>L51_0 call ai  :=by
 intro a b c d;unfold L51_0;exact (lb fun _=>(lb fun _=>(lb fun _=>(lb fun _=>(aP (by(iterate 13 refine lb fun _=>?_);exact (aP (aL.const _) (lb fun _=>c _))) (aL.const _))))))
def FL51_0(call:CC)(vs:List AV):ai (L51_0 call ai) vs=L51_0 call ai  (ai (L51_0 call ai)) vs:=bU (XL51_0) vs
def S51(call:CC)(fx:cd AV)(a0 a1:AV):M AV:=ae (ah (aa T 35 (.ip (ab a0)) 0)) fun a=>ae (ah (ak T 3 a)) fun b=>ae (ah (aa T 35 (.ip (ab a1)) 0)) fun c=>ae (ah (ak T 3 c)) fun d=>ae (ah (au T .neq 3 b d)) fun e=>ae (aw e false 1 (ae (ah (aa T 35 (.ip (ab a0)) 1)) fun f=>ae (ah (ak T 23 f)) fun g=>ae (ah (a7 T 23 g)) fun h=>ae (ah (aa T 35 (.ip (ab a1)) 1)) fun i=>ae (ah (ak T 23 i)) fun j=>ae (ah (a7 T 23 j)) fun k=>ae (ah (au T .neq 3 h k)) fun l=>M.pure [l])) fun m=>ae (ah (aO e (.bool true) (nth m 0))) fun n=>aQ n (M.pure (AV.bool false)) (fx (L51_0 call fx) [.ip (ab a0),.ip (ab a1),.int .i64 0])
def E51(a0 a1:AV):EE 51 Tryz.f51 yj [a0,a1] (fun c x=>S51 c x a0 a1):=fun _ _=>by kernel_rfl
def C51(a0 a1:AV):af pg 51 [a0,a1]=aK (S51 (af pg) ai (cl ax a0) (cl ax a1)):=(ay hOther rfl rfl rfl _).trans (DL aK (E51 (cl ax a0) (cl ax a1) _ _))
def L67_0(call:CC)(fx:cd AV)(a:RR)(b:List AV):M AV:=ae (ah (aa T 35 (nth b 2) 1)) fun c=>ae (ah (ak T 23 c)) fun d=>ae (ah (a7 T 23 d)) fun e=>ae (ah (au T .lss 3 (nth b 4) e)) fun f=>ae (aw f true 1 (ae (ah (au T .leq 3 (nth b 3) (nth b 0))) fun g=>M.pure [g])) fun h=>ae (ah (aO f (nth h 0) (.bool false))) fun i=>aQ i (ae (ah (aa T 35 (nth b 2) 1)) fun j=>ae (ah (ak T 23 j)) fun k=>ae (ah (az T 23 k (nth b 4))) fun l=>ae (ah (aa T 55 l 1)) fun m=>ae (ah (ak T 35 m)) fun n=>ae (ah (au T .sub 3 (nth b 0) (nth b 3))) fun o=>ae (ah (au T .sub 3 (nth b 1) (.int .i64 1))) fun p=>ae (call 67 [n,o,p]) fun q=>ae (ah (au T .add 3 (nth b 3) q)) fun r=>ae (ah (au T .add 3 (nth b 4) (.int .i64 1))) fun s=>a [nth b 0,nth b 1,nth b 2,r,s]) (M.pure (nth b 3))
def XL67_0{call:CC}:cU (L67_0 call ai) fun _n=>L67_0 call ai  :=by
 intro a b c d;unfold L67_0;exact (by(iterate 6 refine lb fun _=>?_);exact (aP (by(iterate 10 refine lb fun _=>?_);exact (c _)) (aL.const _)))
def FL67_0(call:CC)(vs:List AV):ai (L67_0 call ai) vs=L67_0 call ai  (ai (L67_0 call ai)) vs:=bU (XL67_0) vs
def S67(call:CC)(fx:cd AV)(a0 a1 a2:AV):M AV:=ae (ah (au T .lss 3 a2 (.int .i64 1))) fun a=>aQ a (ae (ah (au T .add 3 a1 (.int .i64 1))) fun b=>M.pure b) (fx (L67_0 call fx) [a1,a2,.ip (ab a0),.int .i64 1,.int .i64 0])
def E67(a0 a1 a2:AV):EE 67 Tryz.f67 yo [a0,a1,a2] (fun c x=>S67 c x a0 a1 a2):=fun _ _=>by kernel_rfl
def C67(a0 a1 a2:AV):af pg 67 [a0,a1,a2]=aK (S67 (af pg) ai (cl ax a0) (cl ax a1) (cl ax a2)):=(ay hOther rfl rfl rfl _).trans (DL aK (E67 (cl ax a0) (cl ax a1) (cl ax a2) _ _))
def S75(call:CC)(fx:cd AV)(a0:AV):M AV:=ae (ah (bE a0)) fun a=>ae (ah (aa T 99 a 0)) fun b=>ae (cQ T 9 b (.str [])) fun c=>ae (ah (bE a0)) fun d=>ae (ah (aa T 99 d 1)) fun e=>ae (cQ T 4 e (.bool true)) fun f=>M.pure (AV.tup [])
def E75(a0:AV):EE 75 Tryz.f75 yr [a0] (fun c x=>S75 c x a0):=fun _ _=>by kernel_rfl
def C75(a0:AV):af pg 75 [a0]=S75 (af pg) ai a0:=(cq hOther rfl rfl rfl _).trans (E75 a0 _ _)
def S83(call:CC)(fx:cd AV)(a0:AV):M AV:=ae (ah (ak T 35 (.ip (ab a0)))) fun a=>ae (call 118 [a,.int .i64 4]) fun b=>M.pure b
def E83(a0:AV):EE 83 Tryz.f83 yv [a0] (fun c x=>S83 c x a0):=fun _ _=>by kernel_rfl
def C83(a0:AV):af pg 83 [a0]=aK (S83 (af pg) ai (cl ax a0)):=(ay hOther rfl rfl rfl _).trans (DL aK (E83 (cl ax a0) _ _))
def S101(call:CC)(fx:cd AV)(a0:AV):M AV:=ae (ah (ak T 35 (.ip (ab a0)))) fun a=>ae (call 83 [a]) fun b=>M.pure b
def E101(a0:AV):EE 101 Tryz.f101 uz [a0] (fun c x=>S101 c x a0):=fun _ _=>by kernel_rfl
def C101(a0:AV):af pg 101 [a0]=aK (S101 (af pg) ai (cl ax a0)):=(ay hOther rfl rfl rfl _).trans (DL aK (E101 (cl ax a0) _ _))
def L119_0(call:CC)(fx:cd AV)(a:RR)(b:List AV):M AV:=ae (ah (au T .lss 3 (nth b 3) (nth b 2))) fun c=>aQ c (ae (ah (az T 33 (nth b 0) (nth b 3))) fun d=>ae (ah (ak T 35 d)) fun e=>ae (dH call (nth b 1) [e]) fun f=>aQ f (M.pure (nth b 3)) (ae (ah (au T .add 3 (nth b 3) (.int .i64 1))) fun g=>a [nth b 0,nth b 1,nth b 2,g])) (M.pure (AV.int .i64 (-1)))
def XL119_0{call:CC}:cU (L119_0 call ai) fun _n=>L119_0 call ai  :=by
 intro a b c d;unfold L119_0;exact (lb fun _=>(aP (lb fun _=>(lb fun _=>(lb fun _=>(aP (aL.const _) (lb fun _=>c _))))) (aL.const _)))
def FL119_0(call:CC)(vs:List AV):ai (L119_0 call ai) vs=L119_0 call ai  (ai (L119_0 call ai)) vs:=bU (XL119_0) vs
def S119(call:CC)(fx:cd AV)(a0 a1:AV):M AV:=ae (ah (a7 T 33 a0)) fun a=>fx (L119_0 call fx) [a0,a1,a,.int .i64 0]
def E119(a0 a1:AV):EE 119 Tryz.f119 uH [a0,a1] (fun c x=>S119 c x a0 a1):=fun _ _=>by kernel_rfl
def C119(a0 a1:AV):af pg 119 [a0,a1]=aK (S119 (af pg) ai (cl ax a0) (cl ax a1)):=(ay hOther rfl rfl rfl _).trans (DL aK (E119 (cl ax a0) (cl ax a1) _ _))
def S137(call:CC)(fx:cd AV)(a0 a1:AV):M AV:=ae (ah (aa T 35 a1 1)) fun a=>ae (ah (ak T 23 a)) fun b=>ae (ah (aa T 55 (.ip (ab a0)) 0)) fun c=>ae (ah (ak T 9 c)) fun d=>ae (call 138 [b,d]) fun e=>ae (ah (aZ e 0)) fun f=>ae (ah (aZ e 1)) fun g=>ae (bo 2 f) fun h=>ae (ah (jL UnOp.not g)) fun i=>ae (aw i false 1 (ae (ah (ak T 35 (.ip (ab h)))) fun j=>ae (ah (aa T 55 (.ip (ab a0)) 1)) fun k=>ae (ah (ak T 35 k)) fun l=>ae (call 102 [j,l]) fun m=>ae (ah (jL UnOp.not m)) fun n=>M.pure [n])) fun o=>ae (ah (aO i (.bool true) (nth o 0))) fun p=>M.pure p
def E137(a0 a1:AV):EE 137 Tryz.f137 uJ [a0,a1] (fun c x=>S137 c x a0 a1):=fun _ _=>by kernel_rfl
def C137(a0 a1:AV):af pg 137 [a0,a1]=aK (S137 (af pg) ai (cl ax a0) (cl ax a1)):=(ay hOther rfl rfl rfl _).trans (DL aK (E137 (cl ax a0) (cl ax a1) _ _))
def S144(call:CC)(fx:cd AV)(a0 a1:AV):M AV:=ae (call 167 [a0,a1]) fun a=>ae (ah (jL UnOp.not a)) fun b=>aQ b (M.pure (AV.tup [a0,.bool false])) (ae (ah (a7 T 9 a1)) fun c=>ae (ah (dj T 9 a0 (some c) none none)) fun d=>M.pure (AV.tup [d,.bool true]))
def E144(a0 a1:AV):EE 144 Tryz.f144 uK [a0,a1] (fun c x=>S144 c x a0 a1):=fun _ _=>by kernel_rfl
def C144(a0 a1:AV):af pg 144 [a0,a1]=aK (S144 (af pg) ai (cl ax a0) (cl ax a1)):=(ay hOther rfl rfl rfl _).trans (DL aK (E144 (cl ax a0) (cl ax a1) _ _))
end
end Go.Proofs.YtgpmcoffkopjeaaGreatDoor
namespace Go.Proofs.YtgpmcoffkopjeaaGreatDoor.F
open Go Go.Av Go.Av.Ap
set_option maxRecDepth 100000
def uN:Ann:={ kinds:=[(1,.L),(4,.S)],hl:=[16],nl:=[16,21],lw:=[2,4,8],loops:=[(0,{ vals:=[(10,none),(11,none),(12,none),(2000,none),(2001,none),(3000,none),(3001,none)],locs:=[(1,2000,0),(2,3000,0)],lbs:=[(2000,2),(3000,2)] })] }
def sI:Ann:={ iso:=false,ha:=[7] }
noncomputable def jG:List (Nat×(Func×Ann)):=[(50,(Tryz.f50,uN))]
def own:FuncId->Option Nat:=fun _=>none
noncomputable def other:FuncId->Option ((FuncId->List AV->M AV)->List AV->M AV):=fun f=>bif Nat.beq f 80 then some (cB T 23)else none
noncomputable def pg:Pg:={ T:=T,funcs:=nU jG,own:=own,other:=other,nw:=fun f=>bif Nat.beq f 80 then true else false }
def hOther:ci pg:=by
 intro f E hE call calls hc;have h0:other f=some E:=hE;unfold other at h0;rcases cD h0 with rfl|h0
 ·exact lT _ _ _ _
 cases h0
noncomputable def L50_0(call:FuncId->RR)(fx:cd AV)(a:RR)(b:List AV):M AV:=ae (ah (au T BinOp.lss 3 (nth b 2) (nth b 1))) (fun c=>aQ c (ae (ah (az T 23 (nth b 0) (nth b 2))) (fun d=>ae (cC T 55 d) (fun e=>ae (bo 3 e) (fun f=>ae (ah (aa T 55 (.ip (ab f)) 1)) (fun g=>ae (ah (ak T 35 g)) (fun h=>ae (cu (call 50 [h])) (fun i=>ae (ah (az T 23 (nth b 4) (nth b 2))) (fun j=>ae (ah (aa T 55 j 1)) (fun k=>ae (cQ T 35 k i) (fun l=>ae (ah (au T BinOp.add 3 (nth b 2) (.int IntKind.i64 1))) (fun m=>a [nth b 0,nth b 1,m,nth b 3,nth b 4,nth b 5,nth b 6]))))))))))) (ae (aG 2 [] (.agg [nth b 3,nth b 4])) (fun n=>M.pure (AV.agg [nth (ab n) 0,nth (ab n) 1]))))
def XL50_0{call:FuncId->RR}:cU (L50_0 call ai) fun _n=>L50_0 call ai  :=by
 intro a b c d;unfold L50_0;exact (aL.bnd (aL.const _) fun _=>(aP (aL.bnd (aL.const _) fun _=>(aL.bnd (aL.const _) fun _=>(aL.bnd (aL.const _) fun _=>(aL.bnd (aL.const _) fun _=>(aL.bnd (aL.const _) fun _=>(aL.bnd (aL.const _) fun _=>(aL.bnd (aL.const _) fun _=>(aL.bnd (aL.const _) fun _=>(aL.bnd (aL.const _) fun _=>(aL.bnd (aL.const _) fun _=>c _)))))))))) (aL.const _)))
def FL50_0(call:FuncId->RR)(vs:List AV):ai (L50_0 call ai) vs=L50_0 call ai  (ai (L50_0 call ai)) vs:=bU (XL50_0) vs
noncomputable def S50(call:FuncId->RR)(fx:cd AV)(a0:AV):M AV:=ae (bo 2 a0) (fun a=>ae (call 80 [nth (ab a) 1]) (fun b=>ae (cK b) (fun c=>ae (ah (a7 T 23 b)) (fun d=>fx (L50_0 call fx) [b,d,.int IntKind.i64 0,nth (ab a) 0,b,.int IntKind.i64 0,.sl []]))))
def E50(call:FuncId->List AV->M AV)(fx:cd AV)(a0:AV):bD (pg.cx call Tryz.f50.ntmps uN) fx Tryz.f50 (own 50) [a0]=S50 call fx a0:=by kernel_rfl
def C50(a0:AV):af pg 50 [a0]=aK (S50 (af pg) ai (cl ax a0)):=(ay hOther rfl rfl rfl _).trans (DL aK (E50 _ _ (cl ax a0)))
end Go.Proofs.YtgpmcoffkopjeaaGreatDoor.F
namespace Go.Proofs.YtgpmcoffkopjeaaGreatDoor
open Go Go.Av Go.Av.Ap
set_option maxRecDepth 100000
@[simp] theorem FA27_0(cs:List AV):aa T 27 (.ip cs) 0=some (.ip (cs.drop 0)):=rfl
@[simp] theorem FH27_0(l k:Nat):aa T 27 (.hp l k) 0=some (.hp l (k+0)):=rfl
@[simp] theorem FA27_1(cs:List AV):aa T 27 (.ip cs) 1=some (.ip (cs.drop 1)):=rfl
@[simp] theorem FH27_1(l k:Nat):aa T 27 (.hp l k) 1=some (.hp l (k+1)):=rfl
@[simp] theorem FA27_2(cs:List AV):aa T 27 (.ip cs) 2=some (.ip (cs.drop 2)):=rfl
@[simp] theorem FH27_2(l k:Nat):aa T 27 (.hp l k) 2=some (.hp l (k+2)):=rfl
@[simp] theorem FA29_0(cs:List AV):aa T 29 (.ip cs) 0=some (.ip (cs.drop 0)):=rfl
@[simp] theorem FH29_0(l k:Nat):aa T 29 (.hp l k) 0=some (.hp l (k+0)):=rfl
@[simp] theorem FA29_1(cs:List AV):aa T 29 (.ip cs) 1=some (.ip (cs.drop 1)):=rfl
@[simp] theorem FH29_1(l k:Nat):aa T 29 (.hp l k) 1=some (.hp l (k+1)):=rfl
@[simp] theorem FA29_2(cs:List AV):aa T 29 (.ip cs) 2=some (.ip (cs.drop 2)):=rfl
@[simp] theorem FH29_2(l k:Nat):aa T 29 (.hp l k) 2=some (.hp l (k+2)):=rfl
@[simp] theorem FA29_3(cs:List AV):aa T 29 (.ip cs) 3=some (.ip (cs.drop 3)):=rfl
@[simp] theorem FH29_3(l k:Nat):aa T 29 (.hp l k) 3=some (.hp l (k+3)):=rfl
@[simp] theorem FA29_4(cs:List AV):aa T 29 (.ip cs) 4=some (.ip (cs.drop 4)):=rfl
@[simp] theorem FH29_4(l k:Nat):aa T 29 (.hp l k) 4=some (.hp l (k+4)):=rfl
@[simp] theorem FA29_5(cs:List AV):aa T 29 (.ip cs) 5=some (.ip (cs.drop 5)):=rfl
@[simp] theorem FH29_5(l k:Nat):aa T 29 (.hp l k) 5=some (.hp l (k+5)):=rfl
@[simp] theorem FA29_6(cs:List AV):aa T 29 (.ip cs) 6=some (.ip (cs.drop 6)):=rfl
@[simp] theorem FH29_6(l k:Nat):aa T 29 (.hp l k) 6=some (.hp l (k+6)):=rfl
@[simp] theorem FA32_0(cs:List AV):aa T 32 (.ip cs) 0=some (.ip (cs.drop 0)):=rfl
@[simp] theorem FH32_0(l k:Nat):aa T 32 (.hp l k) 0=some (.hp l (k+0)):=rfl
@[simp] theorem FA32_1(cs:List AV):aa T 32 (.ip cs) 1=some (.ip (cs.drop 1)):=rfl
@[simp] theorem FH32_1(l k:Nat):aa T 32 (.hp l k) 1=some (.hp l (k+1)):=rfl
@[simp] theorem FA35_0(cs:List AV):aa T 35 (.ip cs) 0=some (.ip (cs.drop 0)):=rfl
@[simp] theorem FH35_0(l k:Nat):aa T 35 (.hp l k) 0=some (.hp l (k+0)):=rfl
@[simp] theorem FA35_1(cs:List AV):aa T 35 (.ip cs) 1=some (.ip (cs.drop 1)):=rfl
@[simp] theorem FH35_1(l k:Nat):aa T 35 (.hp l k) 1=some (.hp l (k+1)):=rfl
@[simp] theorem FA37_0(cs:List AV):aa T 37 (.ip cs) 0=some (.ip (cs.drop 0)):=rfl
@[simp] theorem FH37_0(l k:Nat):aa T 37 (.hp l k) 0=some (.hp l (k+0)):=rfl
@[simp] theorem FA37_1(cs:List AV):aa T 37 (.ip cs) 1=some (.ip (cs.drop 1)):=rfl
@[simp] theorem FH37_1(l k:Nat):aa T 37 (.hp l k) 1=some (.hp l (k+1)):=rfl
@[simp] theorem FA37_2(cs:List AV):aa T 37 (.ip cs) 2=some (.ip (cs.drop 2)):=rfl
@[simp] theorem FH37_2(l k:Nat):aa T 37 (.hp l k) 2=some (.hp l (k+2)):=rfl
@[simp] theorem FA37_3(cs:List AV):aa T 37 (.ip cs) 3=some (.ip (cs.drop 4)):=rfl
@[simp] theorem FH37_3(l k:Nat):aa T 37 (.hp l k) 3=some (.hp l (k+4)):=rfl
@[simp] theorem FA55_0(cs:List AV):aa T 55 (.ip cs) 0=some (.ip (cs.drop 0)):=rfl
@[simp] theorem FH55_0(l k:Nat):aa T 55 (.hp l k) 0=some (.hp l (k+0)):=rfl
@[simp] theorem FA55_1(cs:List AV):aa T 55 (.ip cs) 1=some (.ip (cs.drop 1)):=rfl
@[simp] theorem FH55_1(l k:Nat):aa T 55 (.hp l k) 1=some (.hp l (k+1)):=rfl
@[simp] theorem FA57_0(cs:List AV):aa T 57 (.ip cs) 0=some (.ip (cs.drop 0)):=rfl
@[simp] theorem FH57_0(l k:Nat):aa T 57 (.hp l k) 0=some (.hp l (k+0)):=rfl
@[simp] theorem FA57_1(cs:List AV):aa T 57 (.ip cs) 1=some (.ip (cs.drop 1)):=rfl
@[simp] theorem FH57_1(l k:Nat):aa T 57 (.hp l k) 1=some (.hp l (k+1)):=rfl
@[simp] theorem FA57_2(cs:List AV):aa T 57 (.ip cs) 2=some (.ip (cs.drop 2)):=rfl
@[simp] theorem FH57_2(l k:Nat):aa T 57 (.hp l k) 2=some (.hp l (k+2)):=rfl
@[simp] theorem FA57_3(cs:List AV):aa T 57 (.ip cs) 3=some (.ip (cs.drop 3)):=rfl
@[simp] theorem FH57_3(l k:Nat):aa T 57 (.hp l k) 3=some (.hp l (k+3)):=rfl
@[simp] theorem FA57_4(cs:List AV):aa T 57 (.ip cs) 4=some (.ip (cs.drop 4)):=rfl
@[simp] theorem FH57_4(l k:Nat):aa T 57 (.hp l k) 4=some (.hp l (k+4)):=rfl
@[simp] theorem FA57_5(cs:List AV):aa T 57 (.ip cs) 5=some (.ip (cs.drop 5)):=rfl
@[simp] theorem FH57_5(l k:Nat):aa T 57 (.hp l k) 5=some (.hp l (k+5)):=rfl
@[simp] theorem FA59_0(cs:List AV):aa T 59 (.ip cs) 0=some (.ip (cs.drop 0)):=rfl
@[simp] theorem FH59_0(l k:Nat):aa T 59 (.hp l k) 0=some (.hp l (k+0)):=rfl
@[simp] theorem FA59_1(cs:List AV):aa T 59 (.ip cs) 1=some (.ip (cs.drop 1)):=rfl
@[simp] theorem FH59_1(l k:Nat):aa T 59 (.hp l k) 1=some (.hp l (k+1)):=rfl
@[simp] theorem FA59_2(cs:List AV):aa T 59 (.ip cs) 2=some (.ip (cs.drop 2)):=rfl
@[simp] theorem FH59_2(l k:Nat):aa T 59 (.hp l k) 2=some (.hp l (k+2)):=rfl
@[simp] theorem FA59_3(cs:List AV):aa T 59 (.ip cs) 3=some (.ip (cs.drop 3)):=rfl
@[simp] theorem FH59_3(l k:Nat):aa T 59 (.hp l k) 3=some (.hp l (k+3)):=rfl
@[simp] theorem FA59_4(cs:List AV):aa T 59 (.ip cs) 4=some (.ip (cs.drop 5)):=rfl
@[simp] theorem FH59_4(l k:Nat):aa T 59 (.hp l k) 4=some (.hp l (k+5)):=rfl
@[simp] theorem FA59_5(cs:List AV):aa T 59 (.ip cs) 5=some (.ip (cs.drop 6)):=rfl
@[simp] theorem FH59_5(l k:Nat):aa T 59 (.hp l k) 5=some (.hp l (k+6)):=rfl
@[simp] theorem FA68_1(cs:List AV):aa T 68 (.ip cs) 1=some (.ip (cs.drop 1)):=rfl
@[simp] theorem FH68_1(l k:Nat):aa T 68 (.hp l k) 1=some (.hp l (k+1)):=rfl
@[simp] theorem FA99_0(cs:List AV):aa T 99 (.ip cs) 0=some (.ip (cs.drop 0)):=rfl
@[simp] theorem FH99_0(l k:Nat):aa T 99 (.hp l k) 0=some (.hp l (k+0)):=rfl
@[simp] theorem FA99_1(cs:List AV):aa T 99 (.ip cs) 1=some (.ip (cs.drop 1)):=rfl
@[simp] theorem FH99_1(l k:Nat):aa T 99 (.hp l k) 1=some (.hp l (k+1)):=rfl
@[simp] theorem LD3(x:AV)(l:List AV):ak T 3 (.ip (x:: l))=some x:=rfl
@[simp] theorem LD4(x:AV)(l:List AV):ak T 4 (.ip (x:: l))=some x:=rfl
@[simp] theorem LD9(x:AV)(l:List AV):ak T 9 (.ip (x:: l))=some x:=rfl
@[simp] theorem LD22(x:AV)(l:List AV):ak T 22 (.ip (x:: l))=some x:=rfl
@[simp] theorem LD23(x:AV)(l:List AV):ak T 23 (.ip (x:: l))=some x:=rfl
@[simp] theorem LD24(x:AV)(l:List AV):ak T 24 (.ip (x:: l))=some x:=rfl
@[simp] theorem LD25(x:AV)(l:List AV):ak T 25 (.ip (x:: l))=some x:=rfl
@[simp] theorem LD29(cs:List AV):ak T 29 (.ip cs)=if 9<=cs.length then some (.agg (cs.take 9))else none:=rfl
@[simp] theorem LD30(x:AV)(l:List AV):ak T 30 (.ip (x:: l))=some x:=rfl
@[simp] theorem LD32(cs:List AV):ak T 32 (.ip cs)=if 2<=cs.length then some (.agg (cs.take 2))else none:=rfl
@[simp] theorem LD33(x:AV)(l:List AV):ak T 33 (.ip (x:: l))=some x:=rfl
@[simp] theorem LD35(cs:List AV):ak T 35 (.ip cs)=if 2<=cs.length then some (.agg (cs.take 2))else none:=rfl
@[simp] theorem LD37(cs:List AV):ak T 37 (.ip cs)=if 5<=cs.length then some (.agg (cs.take 5))else none:=rfl
@[simp] theorem LD55(cs:List AV):ak T 55 (.ip cs)=if 3<=cs.length then some (.agg (cs.take 3))else none:=rfl
@[simp] theorem LD57(cs:List AV):ak T 57 (.ip cs)=if 6<=cs.length then some (.agg (cs.take 6))else none:=rfl
@[simp] theorem LD59(cs:List AV):ak T 59 (.ip cs)=if 12<=cs.length then some (.agg (cs.take 12))else none:=rfl
@[simp] theorem LD66(x:AV)(l:List AV):ak T 66 (.ip (x:: l))=some x:=rfl
@[simp] theorem Cc(s:bj):a7 T 9 (.str s)=some (.int .i64 s.length):=rfl
@[simp] theorem Ak(es:List AV):a7 T 22 (.sl es)=some (.int .i64 es.length):=rfl
@[simp] theorem Cl:a7 T 22 .hn=some (.int .i64 0):=rfl
@[simp] theorem Cg(l k n s:Nat)(a:Bool):a7 T 22 (.hs l k n s a)=some (.int .i64 n):=rfl
@[simp] theorem Cd(l:List bj):a7 T 22 (strs l)=some (.int .i64 l.length):=(Ak _).trans (by simp)
@[simp] theorem xU(es:List AV):a7 T 23 (.sl es)=some (.int .i64 es.length):=rfl
@[simp] theorem Cm:a7 T 23 .hn=some (.int .i64 0):=rfl
@[simp] theorem yK(l k n s:Nat)(a:Bool):a7 T 23 (.hs l k n s a)=some (.int .i64 n):=rfl
@[simp] theorem jN(l:List dV):a7 T 23 (bm l)=some (.int .i64 l.length):=(xU _).trans (by simp[cN])
@[simp] theorem Al(es:List AV):a7 T 24 (.sl es)=some (.int .i64 es.length):=rfl
@[simp] theorem Cn:a7 T 24 .hn=some (.int .i64 0):=rfl
@[simp] theorem Ch(l k n s:Nat)(a:Bool):a7 T 24 (.hs l k n s a)=some (.int .i64 n):=rfl
@[simp] theorem Ce(l:List Exp):a7 T 24 (gD l)=some (.int .i64 l.length):=(Al _).trans (by simp[iE])
@[simp] theorem Am(es:List AV):a7 T 25 (.sl es)=some (.int .i64 es.length):=rfl
@[simp] theorem Co:a7 T 25 .hn=some (.int .i64 0):=rfl
@[simp] theorem Ci(l k n s:Nat)(a:Bool):a7 T 25 (.hs l k n s a)=some (.int .i64 n):=rfl
@[simp] theorem Cf(l:List Fun):a7 T 25 (qp l)=some (.int .i64 l.length):=(Am _).trans (by simp)
@[simp] theorem An(es:List AV):a7 T 30 (.sl es)=some (.int .i64 es.length):=rfl
@[simp] theorem Cp:a7 T 30 .hn=some (.int .i64 0):=rfl
@[simp] theorem Cj(l k n s:Nat)(a:Bool):a7 T 30 (.hs l k n s a)=some (.int .i64 n):=rfl
@[simp] theorem lx(l:List Sig):a7 T 30 (sigs l)=some (.int .i64 l.length):=(An _).trans (by simp)
@[simp] theorem Ao(es:List AV):a7 T 33 (.sl es)=some (.int .i64 es.length):=rfl
@[simp] theorem Cq:a7 T 33 .hn=some (.int .i64 0):=rfl
@[simp] theorem Ck(l k n s:Nat)(a:Bool):a7 T 33 (.hs l k n s a)=some (.int .i64 n):=rfl
@[simp] theorem ly(l:List Ty):a7 T 33 (iR l)=some (.int .i64 l.length):=(Ao _).trans (by simp)
def tj{l:List dV}{n:Int}(h0:0<=n)(h:n<(l.length:Int)):az T 23 (bm l) (.int .i64 n)=some (.ip (ab (a6 l[n.toNat]!))):=by rw[bm,cN];exact ff (T:=T) (t:=23) (e:=55) rfl rfl rfl (fun _=>by first|rfl|(simp;done)|(simp;rfl)) h0 h
def uv{l:List Sig}{n:Int}(h0:0<=n)(h:n<(l.length:Int)):az T 30 (sigs l) (.int .i64 n)=some (.ip (ab (Sig.av l[n.toNat]!))):=ff (T:=T) (t:=30) (e:=37) rfl rfl rfl (fun _=>by first|rfl|(simp;done)|(simp;rfl)) h0 h
def tk{l:List Ty}{n:Int}(h0:0<=n)(h:n<(l.length:Int)):az T 33 (iR l) (.int .i64 n)=some (.ip (ab (Ty.av l[n.toNat]!))):=ff (T:=T) (t:=33) (e:=35) rfl rfl rfl (fun _=>by first|rfl|(simp;done)|(simp;rfl)) h0 h
def B9{a b:List dV}(h:(a.length+b.length)*48<=140737488355328):eH T 23 (bm a) (bm b)=some (bm (a++b)):=by
 have:=lL (T:=T) (t:=23) (e:=55) rfl rfl rfl (f:=a6) (fun _=>by first|rfl|(simp;done)|(simp;rfl)) (a:=a) (b:=b) h (by decide)
 simpa [bm,cN]using this
def Ca{a b:List Sig}(h:(a.length+b.length)*80<=140737488355328):eH T 30 (sigs a) (sigs b)=some (sigs (a++b)):=by
 have:=lL (T:=T) (t:=30) (e:=37) rfl rfl rfl (f:=Sig.av) (fun _=>by first|rfl|(simp;done)|(simp;rfl)) (a:=a) (b:=b) h (by decide)
 simpa [sigs]using this
def Cb{a b:List Ty}(h:(a.length+b.length)*32<=140737488355328):eH T 33 (iR a) (iR b)=some (iR (a++b)):=by
 have:=lL (T:=T) (t:=33) (e:=35) rfl rfl rfl (f:=Ty.av) (fun _=>by first|rfl|(simp;done)|(simp;rfl)) (a:=a) (b:=b) h (by decide)
 simpa [iR]using this
end Go.Proofs.YtgpmcoffkopjeaaGreatDoor
