/- What the functions of the seat compute, part 2: the texts of the claim, one behind the other. Conditions: bounds, as each theorem names them. -/
import Derived.Test.YtmgjpakjlbofpaaGreatTa
import Derived.Test.YtmgjpakjlbofpaaGreatRows
import Derived.Shelf.Vars
import Derived.ProofKit
import Derived.Deep.DeepHandedRow
import Derived.Deep.DeepWitnessRowRef
import Derived.Deep.DeepLaidRun
set_option linter.defProp false
set_option linter.unusedSimpArgs false
set_option linter.unusedVariables false
namespace Go.Proofs.YtmgjpakjlbofpaaGreat
open Go Go.Av Go.RowKit
set_option maxRecDepth 100000
def FZ(S:aw)(β:List bw)(y:List UInt8×Int×List AV)(z:cI):Prop:=z.1.data.toList=y.1/\z.2.1=y.2.1/\VR S β (.sl y.2.2) z.f
def iG(S:aw)(β:List bw):List (List UInt8×Int×List AV)->List cI->Prop
 |[],zs=>zs=[]
 |y:: l,zs=>∃z r,zs=z:: r/\FZ S β y z/\iG S β l r
theorem iG.length{S:aw}{β:List bw}:{l:List (List UInt8×Int×List AV)} ->{zs:List cI} ->iG S β l zs->zs.length=l.length
 |[],_,h=>by simp only[iG]at h;simp[h]
 |y:: l,zs,h=>by
  simp only[iG]at h;obtain⟨z,r,rfl,_,h⟩:=h;simp[iG.length h]
def wW{e:AV}{y:List UInt8×Int×List AV}(h:vK e=some y):e= .agg [.str y.1,.int .i64 y.2.1,.sl y.2.2]:=by
 unfold vK at h;split at h
 ·cases h;rfl
 ·cases h
theorem Hn{S:aw}{β:List bw}{b sz:Nat}:(es:List AV)->(off:Nat)->(l:List (List UInt8×Int×List AV))->bB S β es b off sz->fX es=some l->
  ∃zs:List cI,iG S β l zs/\∀j,j<zs.length->S b (off+j*3)=some (.string (zs[j]?.getD default).1)/\S b (off+j*3+1)=some (zs[j]?.getD default).k/\S b (off+j*3+2)=some (zs[j]?.getD default).f
 |[],off,l,_,h=>by
  simp only[fX,Kg]at h;subst h;exact⟨[],rfl,fun j hj=>by simp at hj⟩
 | e :: es,off,l,he,h=>by
  simp only[fX]at h;cases h1:vK e with
  |none=>rw[h1]at h;cases h
  | some y=>
   cases h2:fX es with
   |none=>rw[h1,h2]at h;cases h
   | some l'=>
    rw[h1,h2]at h;simp only[Kg]at h;subst h;simp only[bB]at he;obtain⟨⟨v,hv,hs,hc⟩,he⟩:=he
    have:=wW h1
    subst this;simp only[VR,bc]at hv;obtain⟨vs,rfl,_,_,rfl,⟨x,rfl,hx⟩,_,_,rfl,rfl,v3,_,rfl,hv3,rfl⟩:=hv;obtain⟨p,cap,hp,hq1,hq2,hq3⟩:=hv3;subst hp;have hsz:sz=3:=by rw[<- hs];rfl
    subst hsz;obtain⟨zs,hR,hZ⟩:=Hn es (off+3) l' he h2;have c0:=hc 0 _ rfl;have c1:=hc 1 _ rfl;have c2:=hc 2 _ rfl;refine⟨(x,y.2.1,(p,y.2.2.length,cap)):: zs,⟨_,_,rfl,⟨hx,rfl,by simp only[cI.f,VR];exact⟨p,cap,rfl,hq1,hq2,hq3⟩⟩,hR⟩,fun j hj=>?_⟩;cases j with
    |zero=>exact⟨by simpa using c0,by simpa [cI.k]using c1,by simpa [cI.f]using c2⟩
    |succ j=>
     have:=hZ j (by simpa using hj)
     rw[show off+3+j*3=off+(j+1)*3 by omega]at this;simpa using this
theorem kK{S:aw}{β:List bw}{x:ByteArray}{name:List UInt8}(hx:x.data.toList=name):{l:List (List UInt8×Int×List AV)} ->{zs:List cI} ->iG S β l zs->
  (iY (fun z=>z.1== name) l=none/\iY (fun z:cI=>decide (z.1=x)) zs=none)\/∃y z,iY (fun z=>z.1== name) l=some y/\iY (fun z:cI=>decide (z.1=x)) zs=some z/\FZ S β y z
 |[],zs,h=>by simp only[iG]at h;subst h;exact .inl ⟨rfl,rfl⟩
 | y :: l,zs,h=>by
  simp only[iG]at h;obtain⟨z,r,rfl,hz,h⟩:=h;rcases kK hx h with⟨h1,h2⟩|⟨y',z',h1,h2,h3⟩
  ·have he:(y.1== name)=decide (z.1=x):=by
    rw[<- hz.1,<- hx];by_cases h:z.1=x
    ·subst h;simp
    ·have h':z.1.data.toList≠x.data.toList:=fun h'=>h (ByteArray.ext (LK h'));rw[decide_eq_false h];exact LD.2 h'
   simp only[iY,h1,h2,he];cases decide (z.1=x)with
   |true=>exact .inr ⟨y,z,rfl,rfl,hz⟩
   |false=>exact .inl ⟨rfl,rfl⟩
  ·simp only[iY,h1,h2];exact .inr ⟨_,_,rfl,rfl,h3⟩
def E4(call:FuncId->List AV->M AV)(args:List AV)(h:Hp)(S:aw)(β:List bw)(w:World)(vs:List Value)(hr:mN call args h≠.fail)(hg:tA β h w)(hw:Wf S w)(hh:cD S β w h)(hv:bc S β args vs):
  Calls Tryz.prog 117 vs.toArray w (d7 none S β h w (mN call args h)):=by
 unfold mN at hr |-;split at hr
 ·rename_i es name;cases hl:fX es with
  |none=>rw[hl]at hr;exact absurd rfl hr
  | some l=>
   rw[hl]at hr;simp only at hr |-;cases hc:decide (l.length<=1000000000)with
   |false=>rw[hc]at hr;exact absurd rfl hr
   | true=>
    simp only[Kh];simp only[bc,VR]at hv;obtain⟨_,_,rfl,⟨a,cap,rfl,hle,hnil,hq⟩,_,_,rfl,⟨x,rfl,hx⟩,rfl⟩:=hv;have hlen:∀(es:List AV)(l:List (List UInt8×Int×List AV)),fX es=some l->l.length=es.length:=by
     intro es
     induction es with
     |nil=>intro l h;simp only[fX,Kg]at h;subst h;rfl
     | cons e es ih=>
      intro l h;simp only[fX]at h;split at h
      ·rename_i h2;cases h;simp[ih _ h2]
      ·cases h
    have hll:=hlen es l hl;have hz:∃zs:List cI,iG S β l zs/\kc w.heap.size w (.slice a zs.length cap) zs:=by
     cases es with
     |nil=>
      simp only[fX,Kg]at hl;subst hl;exact⟨[],rfl,.inl ⟨rfl,a,cap,rfl⟩⟩
     | cons e es=>
      cases a with
      |none=>have:=hnil rfl;subst this;simp at hle
      | some q=>
       obtain⟨hs,sz,hE⟩:=hq q rfl;have hcap:0<cap:=by simp at hle;omega
       obtain⟨b,off,sp⟩:=q;have hs':sp=none:=hs hcap;subst hs';obtain⟨zs,hR,hZ⟩:=Hn (e:: es) off l hE hl;refine⟨zs,hR,.inr ⟨b,off,cap,rfl,?_,fun j hj=>?_⟩⟩
       ·have h0:=(hZ 0 (by rw[hR.length,hll];simp)).1;exact hw.lt h0
       ·obtain⟨h1,h2,h3⟩:=hZ j hj;exact⟨hw _ _ _ h1,hw _ _ _ h2,hw _ _ _ h3⟩
    obtain⟨zs,hR,hF⟩:=hz;have hzl:=hR.length;rw[show es.length=zs.length by omega];refine (callsIn_wide (n:=3)).1 ((Be Fence.wide 3 trivial trivial trivial rfl (by omega) a zs.length cap x zs (by have:=Mi hc;omega) w hF).mono ?_);rintro e w' ⟨rfl,hb⟩;refine lX hw hh hb EZ ?_;unfold qC zm lB;rw[<- oW];rcases kK hx hR with⟨h1,h2⟩|⟨y,z,h1,h2,h3⟩
    ·rw[h1,h2];simp only[VR,bc];exact⟨_,rfl,_,_,rfl,⟨_,rfl,_,_,rfl,rfl,_,_,rfl,⟨none,0,rfl,Kk _,fun _=>rfl,fun q hq=>by cases hq⟩,rfl⟩,_,_,rfl,rfl,rfl⟩
    ·rw[h1,h2];obtain⟨_,h4,h5⟩:=h3;simp only[VR,bc];exact⟨_,rfl,_,_,rfl,⟨_,rfl,_,_,rfl,by rw[<- h4];rfl,_,_,rfl,h5,rfl⟩,_,_,rfl,rfl,rfl⟩
 ·exact absurd rfl hr
end Go.Proofs.YtmgjpakjlbofpaaGreat
namespace Go.Proofs.YtmgjpakjlbofpaaGreat
open Go Go.Av Go.Av.Ap Go.RowKit
set_option maxRecDepth 1000000
def eB(z:Array Value)(n:Nat):(Builtin.zeroCells z n).size=n*z.size:=by
 simp[Builtin.zeroCells]
def jo{sz:Nat}{t:TypeId}{f:FuncId} (hc:∀(n:Nat),n<=1000000->∀w:World,Calls Tryz.prog f #[.slice none 0 0,.int .i64 n] w fun e w'=>∃a cap,e= .returned (.slice a 0 cap)/\
  ((a=none/\cap=0/\w'=w)\/(a=some ⟨w.heap.size,0,none⟩/\∃x,cap*sz<=x.size/\w'=w.drew.alloc (.cells x t))))
  (call:FuncId->List AV->M AV) (args:List AV) (h:Hp) (S:aw) (β:List bw) (w:World) (vs:List Value) (hr:nG call args h≠.fail) (_hg:tA β h w) (hw:Wf S w) (hh:cD S β w h) (hv:bc S β args vs):
  Calls Tryz.prog f vs.toArray w (d7 (some sz) S β h w (nG call args h)):=by
 unfold nG at hr |-;split at hr
 ·rename_i n;cases hcd:(decide (0<=n)&&decide (n<=1000000))with
  |false=>rw[hcd]at hr;exact absurd rfl hr
  | true=>
   simp only[Kj,KQ]at hcd;simp only[Kh];obtain⟨m,rfl⟩:∃m:Nat,n=m:=⟨n.toNat,by omega⟩;simp only[bc,VR]at hv;obtain⟨_,_,rfl,rfl,_,_,rfl,rfl,rfl⟩:=hv;refine (hc m (by omega) w).mono ?_;rintro e w' ⟨a,cap,rfl,h1⟩;have hb:Below w.heap.size w w':=by
    rcases h1 with⟨_,_,rfl⟩|⟨_,x,_,rfl⟩
    ·exact Below.refl _ _
    ·exact (show Below w.heap.size w w.drew from⟨rfl,rfl,rfl,Kk _,fun _ _=>rfl⟩).trans ((Below.refl _ w.drew).alloc (Kk _) _)
   refine⟨S,β,_,rfl,?_,nN hw hh hb EZ (fun _ _ _=>rfl) (fun b o v hge hv=>by have:=hw.lt hv;omega),fun sz' hsz=>?_⟩
   ·simp only[VR];refine⟨a,cap,rfl,LF _,fun ha=>?_,fun q hq=>?_⟩
    ·rcases h1 with⟨_,rfl,_⟩|⟨rfl,_⟩
     ·rfl
     ·cases ha
    ·rcases h1 with⟨rfl,_⟩|⟨rfl,_⟩
     ·cases hq
     ·cases hq;exact⟨fun _=>rfl,sz,trivial⟩
   ·cases hsz;refine⟨a,0,cap,rfl,LF _,fun ha=>?_,?_⟩
    ·rcases h1 with⟨_,rfl,_⟩|⟨rfl,_⟩
     ·rfl
     ·cases ha
    ·rcases h1 with⟨_,rfl,_⟩|⟨rfl,x,hx,rfl⟩
     ·exact .inl rfl
     ·refine .inr ⟨w.heap.size,0,x,rfl,?_,by omega,Kk _,fun ho=>?_,fun o _=>?_⟩
      ·exact Row.new w.drew x t
      ·obtain⟨l,cs,n,k1,k2,k3⟩:=ho;obtain⟨_,ω,hH⟩:=hh;rcases hH l cs k1 k2 with⟨b',y,j1,j2,_⟩|⟨b',j1,_,_,j2⟩
       ·rw[k3]at j1;cases j1;exact absurd j2.lt (by omega)
       ·rw[k3]at j1;cases j1;exact absurd j2.lt (by omega)
      ·cases hS:S w.heap.size o with
       |none=>rfl
       |some v=>exact absurd (hw.lt hS) (by omega)
 ·exact absurd rfl hr
def Bb:(Tryz.prog.info? 9).bind (fun i=>i.zero.map fun z=>(i.size,i.bytes,z.cells.size))=some (1,16,1):=by kernel_rfl
def A6(n:Nat)(hn:n<=1000000)(w:World):Calls Tryz.prog 146 #[.slice none 0 0,.int .i64 n] w fun e w'=>∃a cap,e= .returned (.slice a 0 cap)/\
  ((a=none/\cap=0/\w'=w)\/(a=some ⟨w.heap.size,0,none⟩/\∃x,cap*1<=x.size/\w'=w.drew.alloc (.cells x 9))):=by
 rcases KY n with rfl|h0
 ·refine (Any8.slices_Grow_room J8 none 0 0 0 w (Kk _) (by omega) (by omega) (Kk _)).mono ?_;rintro e w' ⟨rfl,rfl⟩;exact⟨none,0,rfl,.inl ⟨rfl,rfl,rfl⟩⟩
 ·have hi:=Bb;cases hi0:Tryz.prog.info? 9 with
  |none=>rw[hi0]at hi;cases hi
  | some i0=>
   rw[hi0]at hi;simp only[LJ]at hi;cases hz0:i0.zero with
   |none=>rw[hz0]at hi;cases hi
   |some z=>
    rw[hz0]at hi;simp only[K3,Kg,KZ]at hi;obtain⟨hs,hb,hz⟩:=hi;refine (Any8.slices_Grow_grow J8 i0 z hi0 hz0 (by omega) none 0 0 n [] w (Kk _) (by omega) (by rw[hb];omega) (by omega) (by simp) (fun _=>rfl) (fun a ha=>by cases ha)).mono ?_;rintro e w' ⟨rfl,rfl⟩;refine⟨_,_,rfl,.inr ⟨rfl,_,?_,rfl⟩⟩
    have:=grownCap_ge w (0+n) 0 (Tryz.layGrow146_ren.t 25)
    simp only[LN,eB,hz,Ls,K5];generalize grownCap w (0+n) 0 (Tryz.layGrow146_ren.t 25)=G at this |-;omega
def Bc:(Tryz.prog.info? 124).bind (fun i=>i.zero.map fun z=>(i.size,i.bytes,z.cells.size))=some (9,144,9):=by kernel_rfl
def A7(n:Nat)(hn:n<=1000000)(w:World):Calls Tryz.prog 149 #[.slice none 0 0,.int .i64 n] w fun e w'=>∃a cap,e= .returned (.slice a 0 cap)/\
  ((a=none/\cap=0/\w'=w)\/(a=some ⟨w.heap.size,0,none⟩/\∃x,cap*9<=x.size/\w'=w.drew.alloc (.cells x 124))):=by
 rcases KY n with rfl|h0
 ·refine (Any8.slices_Grow_room J9 none 0 0 0 w (Kk _) (by omega) (by omega) (Kk _)).mono ?_;rintro e w' ⟨rfl,rfl⟩;exact⟨none,0,rfl,.inl ⟨rfl,rfl,rfl⟩⟩
 ·have hi:=Bc;cases hi0:Tryz.prog.info? 124 with
  |none=>rw[hi0]at hi;cases hi
  | some i0=>
   rw[hi0]at hi;simp only[LJ]at hi;cases hz0:i0.zero with
   |none=>rw[hz0]at hi;cases hi
   |some z=>
    rw[hz0]at hi;simp only[K3,Kg,KZ]at hi;obtain⟨hs,hb,hz⟩:=hi;refine (Any8.slices_Grow_grow J9 i0 z hi0 hz0 (by omega) none 0 0 n [] w (Kk _) (by omega) (by rw[hb];omega) (by omega) (by simp) (fun _=>rfl) (fun a ha=>by cases ha)).mono ?_;rintro e w' ⟨rfl,rfl⟩;refine⟨_,_,rfl,.inr ⟨rfl,_,?_,rfl⟩⟩
    have:=grownCap_ge w (0+n) 0 (Tryz.layGrow149_ren.t 25)
    simp only[LN,eB,hz,Ls,K5];generalize grownCap w (0+n) 0 (Tryz.layGrow149_ren.t 25)=G at this |-;omega
def A9:(Tryz.prog.info? 61).bind (fun i=>i.zero.map fun z=>(i.size,i.bytes,z.cells.size))=some (12,184,12):=by kernel_rfl
def A4(n:Nat)(hn:n<=1000000)(w:World):Calls Tryz.prog 151 #[.slice none 0 0,.int .i64 n] w fun e w'=>∃a cap,e= .returned (.slice a 0 cap)/\
  ((a=none/\cap=0/\w'=w)\/(a=some ⟨w.heap.size,0,none⟩/\∃x,cap*12<=x.size/\w'=w.drew.alloc (.cells x 61))):=by
 rcases KY n with rfl|h0
 ·refine (Any8.slices_Grow_room Ka none 0 0 0 w (Kk _) (by omega) (by omega) (Kk _)).mono ?_;rintro e w' ⟨rfl,rfl⟩;exact⟨none,0,rfl,.inl ⟨rfl,rfl,rfl⟩⟩
 ·have hi:=A9;cases hi0:Tryz.prog.info? 61 with
  |none=>rw[hi0]at hi;cases hi
  | some i0=>
   rw[hi0]at hi;simp only[LJ]at hi;cases hz0:i0.zero with
   |none=>rw[hz0]at hi;cases hi
   |some z=>
    rw[hz0]at hi;simp only[K3,Kg,KZ]at hi;obtain⟨hs,hb,hz⟩:=hi;refine (Any8.slices_Grow_grow Ka i0 z hi0 hz0 (by omega) none 0 0 n [] w (Kk _) (by omega) (by rw[hb];omega) (by omega) (by simp) (fun _=>rfl) (fun a ha=>by cases ha)).mono ?_;rintro e w' ⟨rfl,rfl⟩;refine⟨_,_,rfl,.inr ⟨rfl,_,?_,rfl⟩⟩
    have:=grownCap_ge w (0+n) 0 (Tryz.layGrow151_ren.t 25)
    simp only[LN,eB,hz,Ls,K5];generalize grownCap w (0+n) 0 (Tryz.layGrow151_ren.t 25)=G at this |-;omega
def Ba:(Tryz.prog.info? 32).bind (fun i=>i.zero.map fun z=>(i.size,i.bytes,z.cells.size))=some (3,72,3):=by kernel_rfl
def A5(n:Nat)(hn:n<=1000000)(w:World):Calls Tryz.prog 153 #[.slice none 0 0,.int .i64 n] w fun e w'=>∃a cap,e= .returned (.slice a 0 cap)/\
  ((a=none/\cap=0/\w'=w)\/(a=some ⟨w.heap.size,0,none⟩/\∃x,cap*3<=x.size/\w'=w.drew.alloc (.cells x 32))):=by
 rcases KY n with rfl|h0
 ·refine (Any8.slices_Grow_room J7 none 0 0 0 w (Kk _) (by omega) (by omega) (Kk _)).mono ?_;rintro e w' ⟨rfl,rfl⟩;exact⟨none,0,rfl,.inl ⟨rfl,rfl,rfl⟩⟩
 ·have hi:=Ba;cases hi0:Tryz.prog.info? 32 with
  |none=>rw[hi0]at hi;cases hi
  | some i0=>
   rw[hi0]at hi;simp only[LJ]at hi;cases hz0:i0.zero with
   |none=>rw[hz0]at hi;cases hi
   |some z=>
    rw[hz0]at hi;simp only[K3,Kg,KZ]at hi;obtain⟨hs,hb,hz⟩:=hi;refine (Any8.slices_Grow_grow J7 i0 z hi0 hz0 (by omega) none 0 0 n [] w (Kk _) (by omega) (by rw[hb];omega) (by omega) (by simp) (fun _=>rfl) (fun a ha=>by cases ha)).mono ?_;rintro e w' ⟨rfl,rfl⟩;refine⟨_,_,rfl,.inr ⟨rfl,_,?_,rfl⟩⟩
    have:=grownCap_ge w (0+n) 0 (Tryz.layGrow153_ren.t 25)
    simp only[LN,eB,hz,Ls,K5];generalize grownCap w (0+n) 0 (Tryz.layGrow153_ren.t 25)=G at this |-;omega
end Go.Proofs.YtmgjpakjlbofpaaGreat
namespace Go.Proofs.YtmgjpakjlbofpaaGreat
open Go Go.Av Go.Av.Ap
set_option maxRecDepth 100000
@[simp] theorem FA32_0(cs:List AV):ab T 32 (.ip cs) 0=some (.ip (cs.drop 0)):=rfl
@[simp] theorem FH32_0(l k:Nat):ab T 32 (.hp l k) 0=some (.hp l (k+0)):=rfl
@[simp] theorem FA32_1(cs:List AV):ab T 32 (.ip cs) 1=some (.ip (cs.drop 1)):=rfl
@[simp] theorem FH32_1(l k:Nat):ab T 32 (.hp l k) 1=some (.hp l (k+1)):=rfl
@[simp] theorem FA32_2(cs:List AV):ab T 32 (.ip cs) 2=some (.ip (cs.drop 2)):=rfl
@[simp] theorem FH32_2(l k:Nat):ab T 32 (.hp l k) 2=some (.hp l (k+2)):=rfl
@[simp] theorem FA34_0(cs:List AV):ab T 34 (.ip cs) 0=some (.ip (cs.drop 0)):=rfl
@[simp] theorem FH34_0(l k:Nat):ab T 34 (.hp l k) 0=some (.hp l (k+0)):=rfl
@[simp] theorem FA34_1(cs:List AV):ab T 34 (.ip cs) 1=some (.ip (cs.drop 1)):=rfl
@[simp] theorem FH34_1(l k:Nat):ab T 34 (.hp l k) 1=some (.hp l (k+1)):=rfl
@[simp] theorem FA34_2(cs:List AV):ab T 34 (.ip cs) 2=some (.ip (cs.drop 2)):=rfl
@[simp] theorem FH34_2(l k:Nat):ab T 34 (.hp l k) 2=some (.hp l (k+2)):=rfl
@[simp] theorem FA34_3(cs:List AV):ab T 34 (.ip cs) 3=some (.ip (cs.drop 3)):=rfl
@[simp] theorem FH34_3(l k:Nat):ab T 34 (.hp l k) 3=some (.hp l (k+3)):=rfl
@[simp] theorem FA34_4(cs:List AV):ab T 34 (.ip cs) 4=some (.ip (cs.drop 4)):=rfl
@[simp] theorem FH34_4(l k:Nat):ab T 34 (.hp l k) 4=some (.hp l (k+4)):=rfl
@[simp] theorem FA34_5(cs:List AV):ab T 34 (.ip cs) 5=some (.ip (cs.drop 5)):=rfl
@[simp] theorem FH34_5(l k:Nat):ab T 34 (.hp l k) 5=some (.hp l (k+5)):=rfl
@[simp] theorem FA34_6(cs:List AV):ab T 34 (.ip cs) 6=some (.ip (cs.drop 6)):=rfl
@[simp] theorem FH34_6(l k:Nat):ab T 34 (.hp l k) 6=some (.hp l (k+6)):=rfl
@[simp] theorem FA39_0(cs:List AV):ab T 39 (.ip cs) 0=some (.ip (cs.drop 0)):=rfl
@[simp] theorem FH39_0(l k:Nat):ab T 39 (.hp l k) 0=some (.hp l (k+0)):=rfl
@[simp] theorem FA39_1(cs:List AV):ab T 39 (.ip cs) 1=some (.ip (cs.drop 1)):=rfl
@[simp] theorem FH39_1(l k:Nat):ab T 39 (.hp l k) 1=some (.hp l (k+1)):=rfl
@[simp] theorem FA39_2(cs:List AV):ab T 39 (.ip cs) 2=some (.ip (cs.drop 2)):=rfl
@[simp] theorem FH39_2(l k:Nat):ab T 39 (.hp l k) 2=some (.hp l (k+2)):=rfl
@[simp] theorem FA42_0(cs:List AV):ab T 42 (.ip cs) 0=some (.ip (cs.drop 0)):=rfl
@[simp] theorem FH42_0(l k:Nat):ab T 42 (.hp l k) 0=some (.hp l (k+0)):=rfl
@[simp] theorem FA42_1(cs:List AV):ab T 42 (.ip cs) 1=some (.ip (cs.drop 1)):=rfl
@[simp] theorem FH42_1(l k:Nat):ab T 42 (.hp l k) 1=some (.hp l (k+1)):=rfl
@[simp] theorem FA42_2(cs:List AV):ab T 42 (.ip cs) 2=some (.ip (cs.drop 2)):=rfl
@[simp] theorem FH42_2(l k:Nat):ab T 42 (.hp l k) 2=some (.hp l (k+2)):=rfl
@[simp] theorem FA42_3(cs:List AV):ab T 42 (.ip cs) 3=some (.ip (cs.drop 3)):=rfl
@[simp] theorem FH42_3(l k:Nat):ab T 42 (.hp l k) 3=some (.hp l (k+3)):=rfl
@[simp] theorem FA46_0(cs:List AV):ab T 46 (.ip cs) 0=some (.ip (cs.drop 0)):=rfl
@[simp] theorem FH46_0(l k:Nat):ab T 46 (.hp l k) 0=some (.hp l (k+0)):=rfl
@[simp] theorem FA46_1(cs:List AV):ab T 46 (.ip cs) 1=some (.ip (cs.drop 1)):=rfl
@[simp] theorem FH46_1(l k:Nat):ab T 46 (.hp l k) 1=some (.hp l (k+1)):=rfl
@[simp] theorem FA46_2(cs:List AV):ab T 46 (.ip cs) 2=some (.ip (cs.drop 5)):=rfl
@[simp] theorem FH46_2(l k:Nat):ab T 46 (.hp l k) 2=some (.hp l (k+5)):=rfl
@[simp] theorem FA46_3(cs:List AV):ab T 46 (.ip cs) 3=some (.ip (cs.drop 6)):=rfl
@[simp] theorem FH46_3(l k:Nat):ab T 46 (.hp l k) 3=some (.hp l (k+6)):=rfl
@[simp] theorem FA46_4(cs:List AV):ab T 46 (.ip cs) 4=some (.ip (cs.drop 7)):=rfl
@[simp] theorem FH46_4(l k:Nat):ab T 46 (.hp l k) 4=some (.hp l (k+7)):=rfl
@[simp] theorem FA53_0(cs:List AV):ab T 53 (.ip cs) 0=some (.ip (cs.drop 0)):=rfl
@[simp] theorem FH53_0(l k:Nat):ab T 53 (.hp l k) 0=some (.hp l (k+0)):=rfl
@[simp] theorem FA53_1(cs:List AV):ab T 53 (.ip cs) 1=some (.ip (cs.drop 1)):=rfl
@[simp] theorem FH53_1(l k:Nat):ab T 53 (.hp l k) 1=some (.hp l (k+1)):=rfl
@[simp] theorem FA57_0(cs:List AV):ab T 57 (.ip cs) 0=some (.ip (cs.drop 0)):=rfl
@[simp] theorem FH57_0(l k:Nat):ab T 57 (.hp l k) 0=some (.hp l (k+0)):=rfl
@[simp] theorem FA57_1(cs:List AV):ab T 57 (.ip cs) 1=some (.ip (cs.drop 1)):=rfl
@[simp] theorem FH57_1(l k:Nat):ab T 57 (.hp l k) 1=some (.hp l (k+1)):=rfl
@[simp] theorem FA59_0(cs:List AV):ab T 59 (.ip cs) 0=some (.ip (cs.drop 0)):=rfl
@[simp] theorem FH59_0(l k:Nat):ab T 59 (.hp l k) 0=some (.hp l (k+0)):=rfl
@[simp] theorem FA59_1(cs:List AV):ab T 59 (.ip cs) 1=some (.ip (cs.drop 1)):=rfl
@[simp] theorem FH59_1(l k:Nat):ab T 59 (.hp l k) 1=some (.hp l (k+1)):=rfl
@[simp] theorem FA59_2(cs:List AV):ab T 59 (.ip cs) 2=some (.ip (cs.drop 2)):=rfl
@[simp] theorem FH59_2(l k:Nat):ab T 59 (.hp l k) 2=some (.hp l (k+2)):=rfl
@[simp] theorem FA59_3(cs:List AV):ab T 59 (.ip cs) 3=some (.ip (cs.drop 3)):=rfl
@[simp] theorem FH59_3(l k:Nat):ab T 59 (.hp l k) 3=some (.hp l (k+3)):=rfl
@[simp] theorem FA59_4(cs:List AV):ab T 59 (.ip cs) 4=some (.ip (cs.drop 4)):=rfl
@[simp] theorem FH59_4(l k:Nat):ab T 59 (.hp l k) 4=some (.hp l (k+4)):=rfl
@[simp] theorem FA59_5(cs:List AV):ab T 59 (.ip cs) 5=some (.ip (cs.drop 5)):=rfl
@[simp] theorem FH59_5(l k:Nat):ab T 59 (.hp l k) 5=some (.hp l (k+5)):=rfl
@[simp] theorem FA61_0(cs:List AV):ab T 61 (.ip cs) 0=some (.ip (cs.drop 0)):=rfl
@[simp] theorem FH61_0(l k:Nat):ab T 61 (.hp l k) 0=some (.hp l (k+0)):=rfl
@[simp] theorem FA61_1(cs:List AV):ab T 61 (.ip cs) 1=some (.ip (cs.drop 1)):=rfl
@[simp] theorem FH61_1(l k:Nat):ab T 61 (.hp l k) 1=some (.hp l (k+1)):=rfl
@[simp] theorem FA61_2(cs:List AV):ab T 61 (.ip cs) 2=some (.ip (cs.drop 2)):=rfl
@[simp] theorem FH61_2(l k:Nat):ab T 61 (.hp l k) 2=some (.hp l (k+2)):=rfl
@[simp] theorem FA61_3(cs:List AV):ab T 61 (.ip cs) 3=some (.ip (cs.drop 3)):=rfl
@[simp] theorem FH61_3(l k:Nat):ab T 61 (.hp l k) 3=some (.hp l (k+3)):=rfl
@[simp] theorem FA61_4(cs:List AV):ab T 61 (.ip cs) 4=some (.ip (cs.drop 5)):=rfl
@[simp] theorem FH61_4(l k:Nat):ab T 61 (.hp l k) 4=some (.hp l (k+5)):=rfl
@[simp] theorem FA61_5(cs:List AV):ab T 61 (.ip cs) 5=some (.ip (cs.drop 6)):=rfl
@[simp] theorem FH61_5(l k:Nat):ab T 61 (.hp l k) 5=some (.hp l (k+6)):=rfl
@[simp] theorem FA66_0(cs:List AV):ab T 66 (.ip cs) 0=some (.ip (cs.drop 0)):=rfl
@[simp] theorem FH66_0(l k:Nat):ab T 66 (.hp l k) 0=some (.hp l (k+0)):=rfl
@[simp] theorem FA66_1(cs:List AV):ab T 66 (.ip cs) 1=some (.ip (cs.drop 1)):=rfl
@[simp] theorem FH66_1(l k:Nat):ab T 66 (.hp l k) 1=some (.hp l (k+1)):=rfl
@[simp] theorem FA98_0(cs:List AV):ab T 98 (.ip cs) 0=some (.ip (cs.drop 0)):=rfl
@[simp] theorem FH98_0(l k:Nat):ab T 98 (.hp l k) 0=some (.hp l (k+0)):=rfl
@[simp] theorem FA98_1(cs:List AV):ab T 98 (.ip cs) 1=some (.ip (cs.drop 1)):=rfl
@[simp] theorem FH98_1(l k:Nat):ab T 98 (.hp l k) 1=some (.hp l (k+1)):=rfl
@[simp] theorem FA98_2(cs:List AV):ab T 98 (.ip cs) 2=some (.ip (cs.drop 2)):=rfl
@[simp] theorem FH98_2(l k:Nat):ab T 98 (.hp l k) 2=some (.hp l (k+2)):=rfl
@[simp] theorem FA98_3(cs:List AV):ab T 98 (.ip cs) 3=some (.ip (cs.drop 3)):=rfl
@[simp] theorem FH98_3(l k:Nat):ab T 98 (.hp l k) 3=some (.hp l (k+3)):=rfl
@[simp] theorem FA98_4(cs:List AV):ab T 98 (.ip cs) 4=some (.ip (cs.drop 4)):=rfl
@[simp] theorem FH98_4(l k:Nat):ab T 98 (.hp l k) 4=some (.hp l (k+4)):=rfl
@[simp] theorem FA122_0(cs:List AV):ab T 122 (.ip cs) 0=some (.ip (cs.drop 0)):=rfl
@[simp] theorem FH122_0(l k:Nat):ab T 122 (.hp l k) 0=some (.hp l (k+0)):=rfl
@[simp] theorem FA122_1(cs:List AV):ab T 122 (.ip cs) 1=some (.ip (cs.drop 1)):=rfl
@[simp] theorem FH122_1(l k:Nat):ab T 122 (.hp l k) 1=some (.hp l (k+1)):=rfl
@[simp] theorem FA124_0(cs:List AV):ab T 124 (.ip cs) 0=some (.ip (cs.drop 0)):=rfl
@[simp] theorem FH124_0(l k:Nat):ab T 124 (.hp l k) 0=some (.hp l (k+0)):=rfl
@[simp] theorem FA124_1(cs:List AV):ab T 124 (.ip cs) 1=some (.ip (cs.drop 3)):=rfl
@[simp] theorem FH124_1(l k:Nat):ab T 124 (.hp l k) 1=some (.hp l (k+3)):=rfl
@[simp] theorem FA128_0(cs:List AV):ab T 128 (.ip cs) 0=some (.ip (cs.drop 0)):=rfl
@[simp] theorem FH128_0(l k:Nat):ab T 128 (.hp l k) 0=some (.hp l (k+0)):=rfl
@[simp] theorem FA128_1(cs:List AV):ab T 128 (.ip cs) 1=some (.ip (cs.drop 1)):=rfl
@[simp] theorem FH128_1(l k:Nat):ab T 128 (.hp l k) 1=some (.hp l (k+1)):=rfl
@[simp] theorem FA131_0(cs:List AV):ab T 131 (.ip cs) 0=some (.ip (cs.drop 0)):=rfl
@[simp] theorem FH131_0(l k:Nat):ab T 131 (.hp l k) 0=some (.hp l (k+0)):=rfl
@[simp] theorem FA131_1(cs:List AV):ab T 131 (.ip cs) 1=some (.ip (cs.drop 1)):=rfl
@[simp] theorem FH131_1(l k:Nat):ab T 131 (.hp l k) 1=some (.hp l (k+1)):=rfl
@[simp] theorem FA135_0(cs:List AV):ab T 135 (.ip cs) 0=some (.ip (cs.drop 0)):=rfl
@[simp] theorem FH135_0(l k:Nat):ab T 135 (.hp l k) 0=some (.hp l (k+0)):=rfl
@[simp] theorem FA135_1(cs:List AV):ab T 135 (.ip cs) 1=some (.ip (cs.drop 1)):=rfl
@[simp] theorem FH135_1(l k:Nat):ab T 135 (.hp l k) 1=some (.hp l (k+1)):=rfl
@[simp] theorem FA155_0(cs:List AV):ab T 155 (.ip cs) 0=some (.ip (cs.drop 0)):=rfl
@[simp] theorem FH155_0(l k:Nat):ab T 155 (.hp l k) 0=some (.hp l (k+0)):=rfl
@[simp] theorem FA155_1(cs:List AV):ab T 155 (.ip cs) 1=some (.ip (cs.drop 1)):=rfl
@[simp] theorem FH155_1(l k:Nat):ab T 155 (.hp l k) 1=some (.hp l (k+1)):=rfl
@[simp] theorem FA159_0(cs:List AV):ab T 159 (.ip cs) 0=some (.ip (cs.drop 0)):=rfl
@[simp] theorem FH159_0(l k:Nat):ab T 159 (.hp l k) 0=some (.hp l (k+0)):=rfl
@[simp] theorem FA159_1(cs:List AV):ab T 159 (.ip cs) 1=some (.ip (cs.drop 9)):=rfl
@[simp] theorem FH159_1(l k:Nat):ab T 159 (.hp l k) 1=some (.hp l (k+9)):=rfl
@[simp] theorem FA159_2(cs:List AV):ab T 159 (.ip cs) 2=some (.ip (cs.drop 10)):=rfl
@[simp] theorem FH159_2(l k:Nat):ab T 159 (.hp l k) 2=some (.hp l (k+10)):=rfl
@[simp] theorem FA166_0(cs:List AV):ab T 166 (.ip cs) 0=some (.ip (cs.drop 0)):=rfl
@[simp] theorem FH166_0(l k:Nat):ab T 166 (.hp l k) 0=some (.hp l (k+0)):=rfl
@[simp] theorem FA166_1(cs:List AV):ab T 166 (.ip cs) 1=some (.ip (cs.drop 1)):=rfl
@[simp] theorem FH166_1(l k:Nat):ab T 166 (.hp l k) 1=some (.hp l (k+1)):=rfl
@[simp] theorem FA166_2(cs:List AV):ab T 166 (.ip cs) 2=some (.ip (cs.drop 2)):=rfl
@[simp] theorem FH166_2(l k:Nat):ab T 166 (.hp l k) 2=some (.hp l (k+2)):=rfl
@[simp] theorem FA195_0(cs:List AV):ab T 195 (.ip cs) 0=some (.ip (cs.drop 0)):=rfl
@[simp] theorem FH195_0(l k:Nat):ab T 195 (.hp l k) 0=some (.hp l (k+0)):=rfl
@[simp] theorem FA195_1(cs:List AV):ab T 195 (.ip cs) 1=some (.ip (cs.drop 1)):=rfl
@[simp] theorem FH195_1(l k:Nat):ab T 195 (.hp l k) 1=some (.hp l (k+1)):=rfl
@[simp] theorem FA195_2(cs:List AV):ab T 195 (.ip cs) 2=some (.ip (cs.drop 2)):=rfl
@[simp] theorem FH195_2(l k:Nat):ab T 195 (.hp l k) 2=some (.hp l (k+2)):=rfl
@[simp] theorem FA195_3(cs:List AV):ab T 195 (.ip cs) 3=some (.ip (cs.drop 4)):=rfl
@[simp] theorem FH195_3(l k:Nat):ab T 195 (.hp l k) 3=some (.hp l (k+4)):=rfl
@[simp] theorem LD3(x:AV)(l:List AV):af T 3 (.ip (x:: l))=some x:=rfl
@[simp] theorem LD4(x:AV)(l:List AV):af T 4 (.ip (x:: l))=some x:=rfl
@[simp] theorem LD9(x:AV)(l:List AV):af T 9 (.ip (x:: l))=some x:=rfl
@[simp] theorem LD22(x:AV)(l:List AV):af T 22 (.ip (x:: l))=some x:=rfl
@[simp] theorem LD23(x:AV)(l:List AV):af T 23 (.ip (x:: l))=some x:=rfl
@[simp] theorem LD24(x:AV)(l:List AV):af T 24 (.ip (x:: l))=some x:=rfl
@[simp] theorem LD27(x:AV)(l:List AV):af T 27 (.ip (x:: l))=some x:=rfl
@[simp] theorem LD28(x:AV)(l:List AV):af T 28 (.ip (x:: l))=some x:=rfl
@[simp] theorem LD29(x:AV)(l:List AV):af T 29 (.ip (x:: l))=some x:=rfl
@[simp] theorem LD30(x:AV)(l:List AV):af T 30 (.ip (x:: l))=some x:=rfl
@[simp] theorem LD32(cs:List AV):af T 32 (.ip cs)=if 3<=cs.length then some (.agg (cs.take 3))else none:=rfl
@[simp] theorem LD34(cs:List AV):af T 34 (.ip cs)=if 9<=cs.length then some (.agg (cs.take 9))else none:=rfl
@[simp] theorem LD37(x:AV)(l:List AV):af T 37 (.ip (x:: l))=some x:=rfl
@[simp] theorem LD39(cs:List AV):af T 39 (.ip cs)=if 3<=cs.length then some (.agg (cs.take 3))else none:=rfl
@[simp] theorem LD40(x:AV)(l:List AV):af T 40 (.ip (x:: l))=some x:=rfl
@[simp] theorem LD42(cs:List AV):af T 42 (.ip cs)=if 4<=cs.length then some (.agg (cs.take 4))else none:=rfl
@[simp] theorem LD43(x:AV)(l:List AV):af T 43 (.ip (x:: l))=some x:=rfl
@[simp] theorem LD44(x:AV)(l:List AV):af T 44 (.ip (x:: l))=some x:=rfl
@[simp] theorem LD46(cs:List AV):af T 46 (.ip cs)=if 8<=cs.length then some (.agg (cs.take 8))else none:=rfl
@[simp] theorem LD51(cs:List AV):af T 51 (.ip cs)=if 3<=cs.length then some (.agg (cs.take 3))else none:=rfl
@[simp] theorem LD53(cs:List AV):af T 53 (.ip cs)=if 2<=cs.length then some (.agg (cs.take 2))else none:=rfl
@[simp] theorem LD57(cs:List AV):af T 57 (.ip cs)=if 2<=cs.length then some (.agg (cs.take 2))else none:=rfl
@[simp] theorem LD59(cs:List AV):af T 59 (.ip cs)=if 6<=cs.length then some (.agg (cs.take 6))else none:=rfl
@[simp] theorem LD61(cs:List AV):af T 61 (.ip cs)=if 12<=cs.length then some (.agg (cs.take 12))else none:=rfl
@[simp] theorem LD66(cs:List AV):af T 66 (.ip cs)=if 3<=cs.length then some (.agg (cs.take 3))else none:=rfl
@[simp] theorem LD86(x:AV)(l:List AV):af T 86 (.ip (x:: l))=some x:=rfl
@[simp] theorem LD96(x:AV)(l:List AV):af T 96 (.ip (x:: l))=some x:=rfl
@[simp] theorem LD119(x:AV)(l:List AV):af T 119 (.ip (x:: l))=some x:=rfl
@[simp] theorem LD120(x:AV)(l:List AV):af T 120 (.ip (x:: l))=some x:=rfl
@[simp] theorem LD122(cs:List AV):af T 122 (.ip cs)=if 2<=cs.length then some (.agg (cs.take 2))else none:=rfl
@[simp] theorem LD124(cs:List AV):af T 124 (.ip cs)=if 9<=cs.length then some (.agg (cs.take 9))else none:=rfl
@[simp] theorem LD125(x:AV)(l:List AV):af T 125 (.ip (x:: l))=some x:=rfl
@[simp] theorem LD126(x:AV)(l:List AV):af T 126 (.ip (x:: l))=some x:=rfl
@[simp] theorem LD128(cs:List AV):af T 128 (.ip cs)=if 2<=cs.length then some (.agg (cs.take 2))else none:=rfl
@[simp] theorem LD129(x:AV)(l:List AV):af T 129 (.ip (x:: l))=some x:=rfl
@[simp] theorem LD131(cs:List AV):af T 131 (.ip cs)=if 2<=cs.length then some (.agg (cs.take 2))else none:=rfl
@[simp] theorem LD132(x:AV)(l:List AV):af T 132 (.ip (x:: l))=some x:=rfl
@[simp] theorem LD133(x:AV)(l:List AV):af T 133 (.ip (x:: l))=some x:=rfl
@[simp] theorem LD135(cs:List AV):af T 135 (.ip cs)=if 2<=cs.length then some (.agg (cs.take 2))else none:=rfl
@[simp] theorem LD138(x:AV)(l:List AV):af T 138 (.ip (x:: l))=some x:=rfl
@[simp] theorem LD144(x:AV)(l:List AV):af T 144 (.ip (x:: l))=some x:=rfl
@[simp] theorem LD153(x:AV)(l:List AV):af T 153 (.ip (x:: l))=some x:=rfl
@[simp] theorem LD155(cs:List AV):af T 155 (.ip cs)=if 2<=cs.length then some (.agg (cs.take 2))else none:=rfl
@[simp] theorem LD157(x:AV)(l:List AV):af T 157 (.ip (x:: l))=some x:=rfl
@[simp] theorem LD166(cs:List AV):af T 166 (.ip cs)=if 3<=cs.length then some (.agg (cs.take 3))else none:=rfl
@[simp] theorem LD193(x:AV)(l:List AV):af T 193 (.ip (x:: l))=some x:=rfl
@[simp] theorem LD195(cs:List AV):af T 195 (.ip cs)=if 5<=cs.length then some (.agg (cs.take 5))else none:=rfl
@[simp] theorem JX(s:bA):aE T 9 (.str s)=some (.int .i64 s.length):=rfl
@[simp] theorem F5(es:List AV):aE T 22 (.sl es)=some (.int .i64 es.length):=rfl
@[simp] theorem I6:aE T 22 .hn=some (.int .i64 0):=rfl
@[simp] theorem IQ(l k n s:Nat)(a:Bool):aE T 22 (.hs l k n s a)=some (.int .i64 n):=rfl
@[simp] theorem mV(l:List Mod):aE T 22 (mods l)=some (.int .i64 l.length):=(F5 _).trans (by simp)
@[simp] theorem F6(es:List AV):aE T 23 (.sl es)=some (.int .i64 es.length):=rfl
@[simp] theorem I7:aE T 23 .hn=some (.int .i64 0):=rfl
@[simp] theorem IU(l k n s:Nat)(a:Bool):aE T 23 (.hs l k n s a)=some (.int .i64 n):=rfl
@[simp] theorem tB(l:List Ap.Call):aE T 23 (Ap.calls l)=some (.int .i64 l.length):=(F6 _).trans (by simp)
@[simp] theorem F7(es:List AV):aE T 24 (.sl es)=some (.int .i64 es.length):=rfl
@[simp] theorem I8:aE T 24 .hn=some (.int .i64 0):=rfl
@[simp] theorem IV(l k n s:Nat)(a:Bool):aE T 24 (.hs l k n s a)=some (.int .i64 n):=rfl
@[simp] theorem C4(l:List Int):aE T 24 (ints l)=some (.int .i64 l.length):=(F7 _).trans (by simp)
@[simp] theorem F8(es:List AV):aE T 27 (.sl es)=some (.int .i64 es.length):=rfl
@[simp] theorem I9:aE T 27 .hn=some (.int .i64 0):=rfl
@[simp] theorem IX(l k n s:Nat)(a:Bool):aE T 27 (.hs l k n s a)=some (.int .i64 n):=rfl
@[simp] theorem tC(l:List bA):aE T 27 (strs l)=some (.int .i64 l.length):=(F8 _).trans (by simp)
@[simp] theorem F9(es:List AV):aE T 28 (.sl es)=some (.int .i64 es.length):=rfl
@[simp] theorem Ja:aE T 28 .hn=some (.int .i64 0):=rfl
@[simp] theorem IY(l k n s:Nat)(a:Bool):aE T 28 (.hs l k n s a)=some (.int .i64 n):=rfl
@[simp] theorem p7(l:List hP):aE T 28 (cF l)=some (.int .i64 l.length):=(F9 _).trans (by simp[fW])
@[simp] theorem Ga(es:List AV):aE T 29 (.sl es)=some (.int .i64 es.length):=rfl
@[simp] theorem Jb:aE T 29 .hn=some (.int .i64 0):=rfl
@[simp] theorem IZ(l k n s:Nat)(a:Bool):aE T 29 (.hs l k n s a)=some (.int .i64 n):=rfl
@[simp] theorem tD(l:List Exp):aE T 29 (dj l)=some (.int .i64 l.length):=(Ga _).trans (by simp[fU])
@[simp] theorem Gb(es:List AV):aE T 30 (.sl es)=some (.int .i64 es.length):=rfl
@[simp] theorem Jc:aE T 30 .hn=some (.int .i64 0):=rfl
@[simp] theorem I0(l k n s:Nat)(a:Bool):aE T 30 (.hs l k n s a)=some (.int .i64 n):=rfl
@[simp] theorem IL(l:List Fun):aE T 30 (kD l)=some (.int .i64 l.length):=(Gb _).trans (by simp)
@[simp] theorem JN(es:List AV):aE T 35 (.sl es)=some (.int .i64 es.length):=rfl
@[simp] theorem Jd:aE T 35 .hn=some (.int .i64 0):=rfl
@[simp] theorem I1(l k n s:Nat)(a:Bool):aE T 35 (.hs l k n s a)=some (.int .i64 n):=rfl
@[simp] theorem Gc(es:List AV):aE T 37 (.sl es)=some (.int .i64 es.length):=rfl
@[simp] theorem Je:aE T 37 .hn=some (.int .i64 0):=rfl
@[simp] theorem I2(l k n s:Nat)(a:Bool):aE T 37 (.hs l k n s a)=some (.int .i64 n):=rfl
@[simp] theorem tE(l:List Val):aE T 37 (vals l)=some (.int .i64 l.length):=(Gc _).trans (by simp[cU])
@[simp] theorem Gd(es:List AV):aE T 43 (.sl es)=some (.int .i64 es.length):=rfl
@[simp] theorem Jf:aE T 43 .hn=some (.int .i64 0):=rfl
@[simp] theorem I3(l k n s:Nat)(a:Bool):aE T 43 (.hs l k n s a)=some (.int .i64 n):=rfl
@[simp] theorem IM(l:List Deed):aE T 43 (deeds l)=some (.int .i64 l.length):=(Gd _).trans (by simp)
@[simp] theorem Ge(es:List AV):aE T 44 (.sl es)=some (.int .i64 es.length):=rfl
@[simp] theorem Jg:aE T 44 .hn=some (.int .i64 0):=rfl
@[simp] theorem I4(l k n s:Nat)(a:Bool):aE T 44 (.hs l k n s a)=some (.int .i64 n):=rfl
@[simp] theorem C9(l:List Vars):aE T 44 (bJ l)=some (.int .i64 l.length):=(Ge _).trans (by simp)
@[simp] theorem Gf(es:List AV):aE T 77 (.sl es)=some (.int .i64 es.length):=rfl
@[simp] theorem Jh:aE T 77 .hn=some (.int .i64 0):=rfl
@[simp] theorem I5(l k n s:Nat)(a:Bool):aE T 77 (.hs l k n s a)=some (.int .i64 n):=rfl
@[simp] theorem IP(l:List Face):aE T 77 (vE l)=some (.int .i64 l.length):=(Gf _).trans (by simp)
@[simp] theorem ID(es:List AV):aE T 138 (.sl es)=some (.int .i64 es.length):=rfl
@[simp] theorem Ik:aE T 138 .hn=some (.int .i64 0):=rfl
@[simp] theorem Ia(l k n s:Nat)(a:Bool):aE T 138 (.hs l k n s a)=some (.int .i64 n):=rfl
@[simp] theorem IF(es:List AV):aE T 144 (.sl es)=some (.int .i64 es.length):=rfl
@[simp] theorem Il:aE T 144 .hn=some (.int .i64 0):=rfl
@[simp] theorem Ib(l k n s:Nat)(a:Bool):aE T 144 (.hs l k n s a)=some (.int .i64 n):=rfl
@[simp] theorem C1(es:List AV):aE T 153 (.sl es)=some (.int .i64 es.length):=rfl
@[simp] theorem Im:aE T 153 .hn=some (.int .i64 0):=rfl
@[simp] theorem Ic(l k n s:Nat)(a:Bool):aE T 153 (.hs l k n s a)=some (.int .i64 n):=rfl
@[simp] theorem H8(l:List Sig):aE T 153 (sigs l)=some (.int .i64 l.length):=(C1 _).trans (by simp)
@[simp] theorem C2(es:List AV):aE T 193 (.sl es)=some (.int .i64 es.length):=rfl
@[simp] theorem Io:aE T 193 .hn=some (.int .i64 0):=rfl
@[simp] theorem Ie(l k n s:Nat)(a:Bool):aE T 193 (.hs l k n s a)=some (.int .i64 n):=rfl
@[simp] theorem H9(l:List Ty):aE T 193 (CU l)=some (.int .i64 l.length):=(C2 _).trans (by simp)
@[simp] theorem IG(es:List AV):aE T 219 (.sl es)=some (.int .i64 es.length):=rfl
@[simp] theorem Ip:aE T 219 .hn=some (.int .i64 0):=rfl
@[simp] theorem Ig(l k n s:Nat)(a:Bool):aE T 219 (.hs l k n s a)=some (.int .i64 n):=rfl
@[simp] theorem II(es:List AV):aE T 222 (.sl es)=some (.int .i64 es.length):=rfl
@[simp] theorem Iq:aE T 222 .hn=some (.int .i64 0):=rfl
@[simp] theorem Ih(l k n s:Nat)(a:Bool):aE T 222 (.hs l k n s a)=some (.int .i64 n):=rfl
@[simp] theorem IJ(es:List AV):aE T 224 (.sl es)=some (.int .i64 es.length):=rfl
@[simp] theorem Ir:aE T 224 .hn=some (.int .i64 0):=rfl
@[simp] theorem Ii(l k n s:Nat)(a:Bool):aE T 224 (.hs l k n s a)=some (.int .i64 n):=rfl
@[simp] theorem IK(es:List AV):aE T 226 (.sl es)=some (.int .i64 es.length):=rfl
@[simp] theorem Is:aE T 226 .hn=some (.int .i64 0):=rfl
@[simp] theorem Ij(l k n s:Nat)(a:Bool):aE T 226 (.hs l k n s a)=some (.int .i64 n):=rfl
def rj{l:List Mod}{n:Int}(h0:0<=n)(h:n<(l.length:Int)):aj T 22 (mods l) (.int .i64 n)=some (.ip (aa (Mod.av l[n.toNat]!))):=bU (T:=T) (t:=22) (e:=34) rfl rfl rfl (fun _=>by first|rfl|(simp;done)|(simp;rfl)) h0 h
def Aj{l:List Ap.Call}{n:Int}(h0:0<=n)(h:n<(l.length:Int)):aj T 23 (Ap.calls l) (.int .i64 n)=some (.ip (aa (Ap.Call.av l[n.toNat]!))):=bU (T:=T) (t:=23) (e:=39) rfl rfl rfl (fun _=>by first|rfl|(simp;done)|(simp;rfl)) h0 h
def Iz{l:List Int}{n:Int}(h0:0<=n)(h:n<(l.length:Int)):aj T 24 (ints l) (.int .i64 n)=some (.ip (aa (AV.int .i64 l[n.toNat]!))):=bU (T:=T) (t:=24) (e:=3) rfl rfl rfl (fun _=>by first|rfl|(simp;done)|(simp;rfl)) h0 h
def Ak{l:List bA}{n:Int}(h0:0<=n)(h:n<(l.length:Int)):aj T 27 (strs l) (.int .i64 n)=some (.ip (aa (AV.str l[n.toNat]!))):=bU (T:=T) (t:=27) (e:=9) rfl rfl rfl (fun _=>by first|rfl|(simp;done)|(simp;rfl)) h0 h
def Al{l:List hP}{n:Int}(h0:0<=n)(h:n<(l.length:Int)):aj T 28 (cF l) (.int .i64 n)=some (.ip (aa (dz l[n.toNat]!))):=by rw[cF,fW];exact bU (T:=T) (t:=28) (e:=66) rfl rfl rfl (fun _=>by first|rfl|(simp;done)|(simp;rfl)) h0 h
def rk{l:List Exp}{n:Int}(h0:0<=n)(h:n<(l.length:Int)):aj T 29 (dj l) (.int .i64 n)=some (.ip (aa (Exp.av l[n.toNat]!))):=by rw[dj,fU];exact bU (T:=T) (t:=29) (e:=59) rfl rfl rfl (fun _=>by first|rfl|(simp;done)|(simp;rfl)) h0 h
def xP{l:List Fun}{n:Int}(h0:0<=n)(h:n<(l.length:Int)):aj T 30 (kD l) (.int .i64 n)=some (.ip (aa (Fun.av l[n.toNat]!))):=bU (T:=T) (t:=30) (e:=61) rfl rfl rfl (fun _=>by first|rfl|(simp;done)|(simp;rfl)) h0 h
def mT{l:List Val}{n:Int}(h0:0<=n)(h:n<(l.length:Int)):aj T 37 (vals l) (.int .i64 n)=some (.ip (aa (Val.av l[n.toNat]!))):=by rw[vals,cU];exact bU (T:=T) (t:=37) (e:=42) rfl rfl rfl (fun _=>by first|rfl|(simp;done)|(simp;rfl)) h0 h
def IA{l:List Deed}{n:Int}(h0:0<=n)(h:n<(l.length:Int)):aj T 43 (deeds l) (.int .i64 n)=some (.ip (aa (Deed.av l[n.toNat]!))):=bU (T:=T) (t:=43) (e:=51) rfl rfl rfl (fun _=>by first|rfl|(simp;done)|(simp;rfl)) h0 h
def Am{l:List Vars}{n:Int}(h0:0<=n)(h:n<(l.length:Int)):aj T 44 (bJ l) (.int .i64 n)=some (.ip (aa (Vars.av l[n.toNat]!))):=bU (T:=T) (t:=44) (e:=53) rfl rfl rfl (fun _=>by first|rfl|(simp;done)|(simp;rfl)) h0 h
def FW{a b:List Ap.Call}(h:(a.length+b.length)*56<=140737488355328):cu T 23 (Ap.calls a) (Ap.calls b)=some (Ap.calls (a++b)):=by
 have:=iL (T:=T) (t:=23) (e:=39) rfl rfl rfl (f:=Ap.Call.av) (fun _=>by first|rfl|(simp;done)|(simp;rfl)) (a:=a) (b:=b) h (by decide)
 simpa [Ap.calls]using this
def FX{a b:List bA}(h:(a.length+b.length)*16<=140737488355328):cu T 27 (strs a) (strs b)=some (strs (a++b)):=by
 have:=iL (T:=T) (t:=27) (e:=9) rfl rfl rfl (f:=AV.str) (fun _=>by first|rfl|(simp;done)|(simp;rfl)) (a:=a) (b:=b) h (by decide)
 simpa [strs]using this
def Ai{a b:List Val}(h:(a.length+b.length)*64<=140737488355328):cu T 37 (vals a) (vals b)=some (vals (a++b)):=by
 have:=iL (T:=T) (t:=37) (e:=42) rfl rfl rfl (f:=Val.av) (fun _=>by first|rfl|(simp;done)|(simp;rfl)) (a:=a) (b:=b) h (by decide)
 simpa [vals,cU]using this
def FY{a b:List Deed}(h:(a.length+b.length)*24<=140737488355328):cu T 43 (deeds a) (deeds b)=some (deeds (a++b)):=by
 have:=iL (T:=T) (t:=43) (e:=51) rfl rfl rfl (f:=Deed.av) (fun _=>by first|rfl|(simp;done)|(simp;rfl)) (a:=a) (b:=b) h (by decide)
 simpa [deeds]using this
def CW{a b:List Vars}(h:(a.length+b.length)*40<=140737488355328):cu T 44 (bJ a) (bJ b)=some (bJ (a++b)):=by
 have:=iL (T:=T) (t:=44) (e:=53) rfl rfl rfl (f:=Vars.av) (fun _=>by first|rfl|(simp;done)|(simp;rfl)) (a:=a) (b:=b) h (by decide)
 simpa [bJ]using this
def Hf(e:AV)(es:List AV):b6 (rO Tryz.f118.ntmps qg) (cm 0) Tryz.f118 (some 3) [.sl (e:: es)]=ae (ah (cu T 28 (.sl []) (.sl (e:: es)))) fun v=>ae (ah (some v)) M.pure:=by kernel_rfl
def Hg:b6 (rO Tryz.f118.ntmps qg) (cm 0) Tryz.f118 (some 3) [.hn]=ae (ah (some (.sl []))) M.pure:=by kernel_rfl
def Hh(l off:Nat):b6 (rO Tryz.f118.ntmps qg) (cm 0) Tryz.f118 (some 3) [.hs l off 0 1 false]=ae (ah (cu T 28 (.sl []) (.hs l off 0 1 false))) fun v=>ae (ah (some v)) M.pure:=by kernel_rfl
def Hi(l off:Nat):cu T 28 (.sl []) (.hs l off 0 1 false)=some (.sl []):=by rfl
def E9(call:FuncId->List AV->M AV)(args:List AV)(h:Hp)(S:aw)(β:List bw)(w:World)(vs:List Value)(hr:dX T 28 call args h≠.fail)(hg:tA β h w)(hw:Wf S w)(hh:cD S β w h)(hv:bc S β args vs):
  Calls Tryz.prog 118 vs.toArray w (d7 (some 3) S β h w (dX T 28 call args h)):=by
 have key:∀es,args=[.sl es]->Calls Tryz.prog 118 vs.toArray w (d7 (some 3) S β h w (dX T 28 call args h)):=by
  rintro es rfl;exact (iP (cx:=rO Tryz.f118.ntmps qg) (own:=some 3) (E:=fun es h=>dX T 28 call [.sl es] h) tok (lp _ _) (qo _ _) Tryz.func118 rfl (fun h=>by rfl) (fun e es h=>by rw[Hf];exact MR (tK _) h) (fun h=>by rw[Hg];rfl) (fun l off h=>by rw[Hh,Hi];rfl) hr hg hw hh hv).1
 unfold dX at hr;split at hr
 ·exact key _ rfl
 ·exact absurd rfl hr
end Go.Proofs.YtmgjpakjlbofpaaGreat
namespace Go.Proofs.YtmgjpakjlbofpaaGreat
open Go Go.Av Go.Av.Ap Go.RowKit
set_option maxRecDepth 100000
def Jk{α:Type}{f k:Nat}{x:α}{o:Option α}{y:α}(h:(bif Nat.beq f k then some x else o)=some y):(f=k/\x=y)\/o=some y:=by
 cases hb:Nat.beq f k with
 |true=>rw[hb]at h;exact .inl ⟨Ko hb,by simpa using h⟩
 |false=>rw[hb]at h;exact .inr h
def yu{α:Type}{f k:Nat}{x y:α}{o:Option α}{P:Prop}(h1:f=k->x=y->P)(h2:o=some y->P)(h:(bif Nat.beq f k then some x else o)=some y):P:=(Jk h).elim (fun h=>h1 h.1 h.2) h2
def Ju:GoodPg Tryz.prog pg where
 tok:=tok
 funcs:=yY
 other:=by
  intro f E hE call hC args h S β w vs hr hg hw hh hv;have h0:other f=some E:=hE;unfold other at h0;revert h0
  repeat' refine yu ?_ ?_
  all_goals first
   |(intro h0;cases h0;done)
   |(rintro rfl rfl;exact absurd rfl hr)
   |(rintro rfl rfl;exact⟨HL call args h S β w vs hr hg hw hh hv,by kernel_rfl⟩)
   |(rintro rfl rfl;exact⟨Fa call args h S β w vs hr hg hw hh hv,by kernel_rfl⟩)
   |(rintro rfl rfl;exact⟨E9 call args h S β w vs hr hg hw hh hv,by kernel_rfl⟩)
   |(rintro rfl rfl;exact⟨E4 call args h S β w vs hr hg hw hh hv,by kernel_rfl⟩)
   |(rintro rfl rfl;exact⟨HM call args h S β w vs hr hg hw hh hv,by kernel_rfl⟩)
   |(rintro rfl rfl;exact⟨Ft call hC args h S β w vs hr hg hw hh hv,by kernel_rfl⟩)
   |(rintro rfl rfl;exact⟨jo A6 call args h S β w vs hr hg hw hh hv,by kernel_rfl⟩)
   |(rintro rfl rfl;exact⟨jo A7 call args h S β w vs hr hg hw hh hv,by kernel_rfl⟩)
   |(rintro rfl rfl;exact⟨jo A4 call args h S β w vs hr hg hw hh hv,by kernel_rfl⟩)
   |(rintro rfl rfl;exact⟨jo A5 call args h S β w vs hr hg hw hh hv,by kernel_rfl⟩)
 nw:=by
  intro f hf;have h0:(bif Nat.beq f 42 then true else false)=true:=hf;cases hb:Nat.beq f 42 with
  |true=>
   have:=Ko hb
   subst this;exact⟨_,rfl,fun call args=>wO _ _ _ _⟩
  |false=>rw[hb]at h0;cases h0
end Go.Proofs.YtmgjpakjlbofpaaGreat
namespace Go.Proofs.YtmgjpakjlbofpaaGreat
open Go Go.Av Go.ChangeShapes Go.WideShapes Go.ChangeAt Go.RowKit
set_option maxRecDepth 1000000
def JC:ownKnob Tryz.prog.godebug=none:=by kernel_rfl
def EB{W:World}(hS:W.ShapedOpen Tryz.prog):GOKw W:=by
 refine⟨?_⟩;exact cell_of_shapedOpen_int (zero:=#[.int .i64 0]) (t:=3) hS (Mi (by kernel_rfl)) (by kernel_rfl) rfl (by kernel_rfl) (by kernel_rfl) Tryz.underlying3
noncomputable def pB(os:Os):World:=World.holding Tryz.prog os ⟨#[],#[],[]⟩
end Go.Proofs.YtmgjpakjlbofpaaGreat
namespace Go.Proofs.YtmgjpakjlbofpaaGreat
open Go Go.Av Go.Av.Ap Go.RowKit
set_option maxRecDepth 1000000
section
variable {H:Type} {enc:TypeId×Value->H} {W:World}
theorem fe:reachBytes=140737488351232:=rfl
theorem qP(N:Nat):Rd enc Tryz.prog W N 27 (fun l:List bA=>[strs l]) (fun l=>l.length<=8796093022208):=
 (fc (jf Tryz.underlying9) Tryz.underlying27 (by kernel_rfl:_=1) (by decide) (by kernel_rfl:_=16) (rS fun _=>rfl)).map id (fun _=>rfl) (fun l h=>by have:=h.1;rw[fe]at this;simp only[id];omega)
theorem Bu(N:Nat):Rd enc Tryz.prog W N 24 (fun l:List Int=>[ints l]) (fun l=>l.length<=140737488355328):=
 (fc (iw Tryz.underlying3) Tryz.underlying24 (by kernel_rfl:_=1) (by decide) (by kernel_rfl:_=8) (rS fun _=>rfl)).map id (fun _=>rfl) (fun l h=>by have:=h.1;rw[fe]at this;simp only[id];omega)
theorem Val.lim_mk{k n:Int}{ns:List bA}{vs:List Val}(h1:ns.length<=140737488355328)(h2:vs.length<=140737488355328)(h3:∀v∈vs,v.Lim):(Val.mk k n ns vs).Lim:=fun j=>match j with
 |0=>trivial
 |j+1=>⟨h1,h2,fun x hx=>h3 x hx j⟩
theorem Exp.lim_mk{o n:Int}{s m:bA}{ns:List bA}{es:List Exp}(h1:ns.length<=8796093022208)(h2:es.length<=140737488355328)(h3:∀v∈es,v.Lim):(Exp.mk o n s m ns es).Lim:=fun j=>match j with
 |0=>trivial
 |j+1=>⟨h1,h2,fun x hx=>h3 x hx j⟩
theorem Ty.lim_mk{k:Int}{fs:List hP}(h2:fs.length<=140737488355328)(h3:∀v∈fs,v.2.Lim):(Ty.mk k fs).Lim:=fun j=>match j with
 |0=>trivial
 |j+1=>⟨h2,fun x hx=>h3 x hx j⟩
theorem om{N:Nat}(h:Rd enc Tryz.prog W N 42 (fun v:Val=>aa v.av) Val.Lim):Rd enc Tryz.prog W N 37 (fun l:List Val=>[vals l]) (fun l=>l.length<=140737488355328/\∀v∈l,v.Lim):=
 (fc h Tryz.underlying37 (by kernel_rfl:_=4) (by decide) (by kernel_rfl:_=64) (ev:=Val.av) (fN fun v=>by rw[v.av_eq];rfl)).map id (fun l=>by simp[vals,cU]) (fun l h=>⟨by have:=h.1;rw[fe]at this;simp only[id];omega,h.2⟩)
theorem rd_val:∀N,Rd enc Tryz.prog W N 42 (fun v:Val=>aa v.av) Val.Lim
 |0=>.zero
 | N+1=>(ee Tryz.underlying42 (by kernel_rfl) (aK (iw Tryz.underlying3) rfl (by kernel_rfl:_=1) (aK (iw Tryz.underlying3) rfl (by kernel_rfl:_=1) (aK (qP N) rfl (by kernel_rfl:_=1)
   (aK (om (rd_val N)) rfl (by kernel_rfl:_=1) fb))))).map (fun x=>Val.mk x.1 x.2.1 x.2.2.1 x.2.2.2.1) (fun x=>by simp[Val.av_eq,aa]) (fun x h=>Val.lim_mk (by have:=h.2.2.1;omega) h.2.2.2.1.1 h.2.2.2.1.2)
theorem Bw(N:Nat):Rd enc Tryz.prog W N 37 (fun l:List Val=>[vals l]) (fun l=>l.length<=140737488355328/\∀v∈l,v.Lim):=om (rd_val N)
theorem oi{N:Nat}(h:Rd enc Tryz.prog W N 59 (fun v:Exp=>v.cells) Exp.Lim):Rd enc Tryz.prog W N 29 (fun l:List Exp=>[dj l]) (fun l=>l.length<=140737488355328/\∀v∈l,v.Lim):=
 (fc h Tryz.underlying29 (by kernel_rfl:_=6) (by decide) (by kernel_rfl:_=96) (ev:=Exp.av) (fN fun v=>rfl)).map id (fun l=>by simp[dj,fU]) (fun l h=>⟨by have:=h.1;rw[fe]at this;simp only[id];omega,h.2⟩)
theorem uH:∀N,Rd enc Tryz.prog W N 59 (fun v:Exp=>v.cells) Exp.Lim
 |0=>.zero
 | N+1=>(ee Tryz.underlying59 (by kernel_rfl) (aK (iw Tryz.underlying3) rfl (by kernel_rfl:_=1) (aK (iw Tryz.underlying3) rfl (by kernel_rfl:_=1) (aK (jf Tryz.underlying9) rfl (by kernel_rfl:_=1) (aK (jf Tryz.underlying9) rfl (by kernel_rfl:_=1)
   (aK (qP N) rfl (by kernel_rfl:_=1) (aK (oi (uH N)) rfl (by kernel_rfl:_=1) fb))))))).map (fun x=>Exp.mk x.1 x.2.1 x.2.2.1 x.2.2.2.1 x.2.2.2.2.1 x.2.2.2.2.2.1) (fun x=>by simp[Exp.cells_eq,Exp.op,Exp.n,Exp.s,Exp.m,Exp.names,Exp.args]) (fun x h=>Exp.lim_mk h.2.2.2.2.1 h.2.2.2.2.2.1.1 h.2.2.2.2.2.1.2)
theorem qN(N:Nat):Rd enc Tryz.prog W N 29 (fun l:List Exp=>[dj l]) (fun l=>l.length<=140737488355328/\∀v∈l,v.Lim):=oi (uH N)
theorem ol{N:Nat}(h:Rd enc Tryz.prog W N 57 (fun v:Ty=>v.cells) Ty.Lim):Rd enc Tryz.prog W (N+1) 28 (fun l:List hP=>[cF l]) (fun l=>l.length<=140737488355328/\∀v∈l,v.2.Lim):=
 (fc ((ee Tryz.underlying66 (by kernel_rfl) (aK (jf Tryz.underlying9) rfl (by kernel_rfl:_=1) (aK h rfl (by kernel_rfl:_=2) fb))).map (fun x=>((x.1,x.2.1):hP)) (cells':=fun f=>aa (dz f)) (Ok':=fun f=>f.2.Lim) (fun x=>by simp[Ty.cells_eq]) (fun x h=>h.2.1))
  Tryz.underlying28 (by kernel_rfl:_=3) (by decide) (by kernel_rfl:_=48) (ev:=dz) (fN fun v=>by rw[ky];rfl)).map id (fun l=>by simp[cF,fW]) (fun l h=>⟨by have:=h.1;rw[fe]at this;simp only[id];omega,h.2⟩)
theorem zC:∀N,Rd enc Tryz.prog W N 57 (fun v:Ty=>v.cells) Ty.Lim
 |0=>.zero
 | N+1=>(ee Tryz.underlying57 (by kernel_rfl) (aK (iw Tryz.underlying3) rfl (by kernel_rfl:_=1) (aK ((ol (zC N)).le (Mk N)) rfl (by kernel_rfl:_=1) fb))).map (fun x=>Ty.mk x.1 x.2.1)
   (fun x=>by simp[Ty.cells_eq,Ty.kind,Ty.fields]) (fun x h=>Ty.lim_mk h.2.1.1 h.2.1.2)
theorem qO(N:Nat):Rd enc Tryz.prog W N 28 (fun l:List hP=>[cF l]) (fun l=>l.length<=140737488355328/\∀v∈l,v.2.Lim):=(ol (zC N)).le (Mk N)
theorem Ff(N:Nat):Rd enc Tryz.prog W (N+1) 61 (fun f:Fun=>aa f.av) Fun.Lim:=
 (ee Tryz.underlying61 (by kernel_rfl) (aK (jf Tryz.underlying9) rfl (by kernel_rfl:_=1) (aK (we Tryz.underlying4) rfl (by kernel_rfl:_=1) (aK (qO N) rfl (by kernel_rfl:_=1) (aK (zC N) rfl (by kernel_rfl:_=2)
  (aK (iw Tryz.underlying3) rfl (by kernel_rfl:_=1) (aK (uH N) rfl (by kernel_rfl:_=6) fb))))))).map (fun x=>(⟨x.1,x.2.1,x.2.2.1,x.2.2.2.1,x.2.2.2.2.1,x.2.2.2.2.2.1⟩:Fun))
  (fun x=>by simp[Ty.cells_eq,Exp.cells_eq]) (fun x h=>⟨h.2.2.1.1,h.2.2.1.2,h.2.2.2.1,h.2.2.2.2.2.1⟩)
theorem Bt(N:Nat):Rd enc Tryz.prog W N 30 (fun l:List Fun=>[kD l]) (fun l=>l.length<=140737488355328/\∀v∈l,v.Lim):=
 ((fc (Ff N) Tryz.underlying30 (by kernel_rfl:_=12) (by decide) (by kernel_rfl:_=184) (ev:=Fun.av) (fN fun v=>rfl)).map id (fun l=>by simp[kD]) (fun l h=>⟨by have:=h.1;rw[fe]at this;simp only[id];omega,h.2⟩)).le (Mk N)
theorem Fg(N:Nat):Rd enc Tryz.prog W (N+1) 34 (fun m:Mod=>aa m.av) Mod.Lim:=
 (ee Tryz.underlying34 (by kernel_rfl) (aK (jf Tryz.underlying9) rfl (by kernel_rfl:_=1) (aK (qP N) rfl (by kernel_rfl:_=1) (aK (qO N) rfl (by kernel_rfl:_=1) (aK (qN N) rfl (by kernel_rfl:_=1)
  (aK (Bt N) rfl (by kernel_rfl:_=1) (aK (we Tryz.underlying4) rfl (by kernel_rfl:_=1)
  (aK ((ee Tryz.underlying32 (by kernel_rfl) (aK (qO N) rfl (by kernel_rfl:_=1) (aK (qN N) rfl (by kernel_rfl:_=1) (aK (qN N) rfl (by kernel_rfl:_=1) fb)))).le (Mk N)) rfl (by kernel_rfl:_=3) fb)))))))).map
  (fun x=>(⟨x.1,x.2.1,x.2.2.1,x.2.2.2.1,x.2.2.2.2.1,x.2.2.2.2.2.1,x.2.2.2.2.2.2.1.1,x.2.2.2.2.2.2.1.2.1,x.2.2.2.2.2.2.1.2.2.1⟩:Mod))
  (fun x=>by simp) (fun x h=>⟨by have:=h.2.1;simp only;omega,h.2.2.1.1,h.2.2.1.2,h.2.2.2.1.1,h.2.2.2.1.2,h.2.2.2.2.1.1,h.2.2.2.2.1.2,h.2.2.2.2.2.2.1.1.1,h.2.2.2.2.2.2.1.1.2,h.2.2.2.2.2.2.1.2.1.1,h.2.2.2.2.2.2.1.2.1.2,h.2.2.2.2.2.2.1.2.2.1.1,h.2.2.2.2.2.2.1.2.2.1.2⟩)
theorem Bv(N:Nat):Rd enc Tryz.prog W N 22 (fun l:List Mod=>[mods l]) (fun l=>l.length<=140737488355328/\∀v∈l,v.Lim):=
 ((fc (Fg N) Tryz.underlying22 (by kernel_rfl:_=9) (by decide) (by kernel_rfl:_=192) (ev:=Mod.av) (fN fun v=>rfl)).map id (fun l=>by simp[mods]) (fun l h=>⟨by have:=h.1;rw[fe]at this;simp only[id];omega,h.2⟩)).le (Mk N)
theorem Br(N:Nat):Rd enc Tryz.prog W (N+1) 39 (fun c:Ap.Call=>aa c.av) CallLim:=
 (ee Tryz.underlying39 (by kernel_rfl) (aK (jf Tryz.underlying9) rfl (by kernel_rfl:_=1) (aK (jf Tryz.underlying9) rfl (by kernel_rfl:_=1) (aK (Bw N) rfl (by kernel_rfl:_=1) fb)))).map (fun x=>(⟨x.1,x.2.1,x.2.2.1⟩:Ap.Call)) (fun x=>rfl) (fun x h=>⟨h.2.2.1.1,h.2.2.1.2⟩)
theorem zB(N:Nat):Rd enc Tryz.prog W N 23 (fun l:List Ap.Call=>[Ap.calls l]) (fun l=>(l.length+1)*56<=140737488355328/\∀c∈l,CallLim c):=
 ((fc (Br N) Tryz.underlying23 (by kernel_rfl:_=3) (by decide) (by kernel_rfl:_=56) (ev:=Ap.Call.av) (fN fun v=>rfl)).map id (fun l=>by simp[Ap.calls]) (fun l h=>⟨by have:=h.1;rw[fe]at this;simp only[id];omega,h.2⟩)).le (Mk N)
end
def zY{n:Int}(h:(Lit.int .u8 n).wf=true):0<=n/\n<=255:=by
 simp[Lit.wf,IntKind.min,IntKind.max,IntKind.signed,IntKind.bits]at h;omega
end Go.Proofs.YtmgjpakjlbofpaaGreat
namespace Go.Proofs.YtmgjpakjlbofpaaGreat
open Go Go.Av Go.Av.Ap
set_option maxRecDepth 100000
noncomputable section
abbrev EE(k:Nat)(fn:Go.Func)(g:Ann)(l:List AV)(S:CC->b7 AV->M AV):Prop:=∀call fx,b6 (pg.cx call fn.ntmps g) fx fn (own k) l=S call fx
def S7(call:CC)(fx:b7 AV)(a0 a1 a2 a3 a4 a5:AV):M AV:=ae (call 18 [a0]) fun a=>ae (ah (bP a 0)) fun b=>ae (ah (bP a 1)) fun c=>ae (ah (ao T .neq 40 c (.int .i64 0))) fun d=>az d (ae (ah (bi T false 46 [(0,c)])) fun e=>ae (au 8 [] e) fun f=>M.pure (AV.agg [nth (aa f) 0,nth (aa f) 1,nth (aa f) 2,nth (aa f) 3,nth (aa f) 4,nth (aa f) 5,nth (aa f) 6,nth (aa f) 7])) (ae (call 19 [a0,b,a1,a2,a3,a4,a5]) fun g=>ae (au 8 [] g) fun h=>M.pure (AV.agg [nth (aa h) 0,nth (aa h) 1,nth (aa h) 2,nth (aa h) 3,nth (aa h) 4,nth (aa h) 5,nth (aa h) 6,nth (aa h) 7]))
def E7(a0 a1 a2 a3 a4 a5:AV):EE 7 Tryz.f7 GQ [a0,a1,a2,a3,a4,a5] (fun c x=>S7 c x a0 a1 a2 a3 a4 a5):=fun _ _=>by kernel_rfl
def C7(a0 a1 a2 a3 a4 a5:AV):ai pg 7 [a0,a1,a2,a3,a4,a5]=aH (S7 (ai pg) ak (cl ar a0) (cl ar a1) (cl ar a2) (cl ar a3) (cl ar a4) (cl ar a5)):=(aA aG rfl rfl rfl _).trans (Kv aH (E7 (cl ar a0) (cl ar a1) (cl ar a2) (cl ar a3) (cl ar a4) (cl ar a5) _ _))
def L13_0(call:CC)(fx:b7 AV)(a:RR)(b:List AV):M AV:=ae (ah (aE T 28 (nth b 0))) fun c=>ae (ah (ao T .lss 3 (nth b 1) c)) fun d=>ae (aC d true 1 (ae (ah (ao T .lss 3 (nth b 1) (.int .i64 9))) fun e=>M.pure [e])) fun f=>ae (ah (aU d (nth f 0) (.bool false))) fun g=>az g (ae (ah (aj T 28 (nth b 0) (nth b 1))) fun h=>ae (ah (ab T 66 h 1)) fun i=>ae (ah (af T 57 i)) fun j=>ae (call 14 [j]) fun k=>ae (ah (ka UnOp.not k)) fun l=>az l (M.pure (AV.bool false)) (ae (ah (ao T .add 3 (nth b 1) (.int .i64 1))) fun m=>a [nth b 0,m])) (ae (ah (aE T 28 (nth b 0))) fun n=>ae (ah (ao T .leq 3 n (.int .i64 8))) fun o=>M.pure o)
def XL13_0{call:CC}:cf (L13_0 call ak) fun _n=>L13_0 call ak  :=by
 intro a b c d;unfold L13_0;exact (lb fun _=>(lb fun _=>(lb fun _=>(lb fun _=>(aB (by(iterate 5 refine lb fun _=>?_);exact (aB (aL.const _) (lb fun _=>c _))) (aL.const _))))))
def FL13_0(call:CC)(vs:List AV):ak (L13_0 call ak) vs=L13_0 call ak  (ak (L13_0 call ak)) vs:=bq (XL13_0) vs
def S13(call:CC)(fx:b7 AV)(a0:AV):M AV:=fx (L13_0 call fx) [a0,.int .i64 0]
def E13(a0:AV):EE 13 Tryz.f13 BU [a0] (fun c x=>S13 c x a0):=fun _ _=>by kernel_rfl
def C13(a0:AV):ai pg 13 [a0]=aH (S13 (ai pg) ak (cl ar a0)):=(aA aG rfl rfl rfl _).trans (Kv aH (E13 (cl ar a0) _ _))
def S15(call:CC)(fx:b7 AV)(a0:AV):M AV:=ae (ah (af T 59 (.ip (aa a0)))) fun a=>ae (call 33 [a,.int .i64 60,.int .i64 14]) fun b=>ae (ah (ao T .leq 3 b (.int .i64 60))) fun c=>M.pure c
def E15(a0:AV):EE 15 Tryz.f15 BW [a0] (fun c x=>S15 c x a0):=fun _ _=>by kernel_rfl
def C15(a0:AV):ai pg 15 [a0]=aH (S15 (ai pg) ak (cl ar a0)):=(aA aG rfl rfl rfl _).trans (Kv aH (E15 (cl ar a0) _ _))
def L32_0(call:CC)(fx:b7 AV)(a:RR)(b:List AV):M AV:=ae (ah (ab T 57 (nth b 2) 1)) fun c=>ae (ah (af T 28 c)) fun d=>ae (ah (aE T 28 d)) fun e=>ae (ah (ao T .lss 3 (nth b 4) e)) fun f=>ae (aC f true 1 (ae (ah (ao T .leq 3 (nth b 3) (nth b 0))) fun g=>M.pure [g])) fun h=>ae (ah (aU f (nth h 0) (.bool false))) fun i=>az i (ae (ah (ab T 57 (nth b 2) 1)) fun j=>ae (ah (af T 28 j)) fun k=>ae (ah (aj T 28 k (nth b 4))) fun l=>ae (ah (ab T 66 l 1)) fun m=>ae (ah (af T 57 m)) fun n=>ae (ah (ao T .sub 3 (nth b 0) (nth b 3))) fun o=>ae (ah (ao T .sub 3 (nth b 1) (.int .i64 1))) fun p=>ae (call 32 [n,o,p]) fun q=>ae (ah (ao T .add 3 (nth b 3) q)) fun r=>ae (ah (ao T .add 3 (nth b 4) (.int .i64 1))) fun s=>a [nth b 0,nth b 1,nth b 2,r,s]) (M.pure (nth b 3))
def XL32_0{call:CC}:cf (L32_0 call ak) fun _n=>L32_0 call ak  :=by
 intro a b c d;unfold L32_0;exact (by(iterate 6 refine lb fun _=>?_);exact (aB (by(iterate 10 refine lb fun _=>?_);exact (c _)) (aL.const _)))
def FL32_0(call:CC)(vs:List AV):ak (L32_0 call ak) vs=L32_0 call ak  (ak (L32_0 call ak)) vs:=bq (XL32_0) vs
def S32(call:CC)(fx:b7 AV)(a0 a1 a2:AV):M AV:=ae (ah (ao T .lss 3 a2 (.int .i64 1))) fun a=>az a (ae (ah (ao T .add 3 a1 (.int .i64 1))) fun b=>M.pure b) (fx (L32_0 call fx) [a1,a2,.ip (aa a0),.int .i64 1,.int .i64 0])
def E32(a0 a1 a2:AV):EE 32 Tryz.f32 B5 [a0,a1,a2] (fun c x=>S32 c x a0 a1 a2):=fun _ _=>by kernel_rfl
def C32(a0 a1 a2:AV):ai pg 32 [a0,a1,a2]=aH (S32 (ai pg) ak (cl ar a0) (cl ar a1) (cl ar a2)):=(aA aG rfl rfl rfl _).trans (Kv aH (E32 (cl ar a0) (cl ar a1) (cl ar a2) _ _))
def S36(call:CC)(fx:b7 AV)(a0 a1:AV):M AV:=ae (call 82 [a0,a1,.fn (Fn.func 83) [] []]) fun a=>M.pure a
def E36(a0 a1:AV):EE 36 Tryz.f36 B9 [a0,a1] (fun c x=>S36 c x a0 a1):=fun _ _=>by kernel_rfl
def C36(a0 a1:AV):ai pg 36 [a0,a1]=aH (S36 (ai pg) ak (cl ar a0) (cl ar a1)):=(aA aG rfl rfl rfl _).trans (Kv aH (E36 (cl ar a0) (cl ar a1) _ _))
def S37(call:CC)(fx:b7 AV)(a0 a1:AV):M AV:=ae (ah (br a0)) fun a=>ae (ah (ab T 98 a 0)) fun b=>ae (a7 T 22 b) fun c=>ae (call 85 [c,.fn (Fn.func 86) [] [.ip (aa a1)]]) fun d=>M.pure d
def E37(a0 a1:AV):EE 37 Tryz.f37 Ca [a0,a1] (fun c x=>S37 c x a0 a1):=fun _ _=>by kernel_rfl
def C37(a0 a1:AV):ai pg 37 [a0,a1]=S37 (ai pg) ak a0 a1:=(cr aG rfl rfl rfl _).trans (E37 a0 a1 _ _)
def S38(call:CC)(fx:b7 AV)(a0 a1 a2:AV):M AV:=ae (ah (ao T .lss 3 a1 (.int .i64 0))) fun a=>az a (ae (ah (bi T false 61 [])) fun b=>ae (au 12 [] b) fun c=>M.pure (AV.tup [.agg [nth (aa c) 0,nth (aa c) 1,nth (aa c) 2,nth (aa c) 3,nth (aa c) 4,nth (aa c) 5,nth (aa c) 6,nth (aa c) 7,nth (aa c) 8,nth (aa c) 9,nth (aa c) 10,nth (aa c) 11],.bool false])) (ae (ah (br a0)) fun d=>ae (ah (ab T 98 d 0)) fun e=>ae (a7 T 22 e) fun f=>ae (ah (aj T 22 f a1)) fun g=>ae (ah (ab T 34 g 4)) fun h=>ae (ah (af T 30 h)) fun i=>ae (call 87 [i,.fn (Fn.func 88) [] [.ip (aa a2)]]) fun j=>ae (ah (ao T .lss 3 j (.int .i64 0))) fun k=>az k (ae (ah (bi T false 61 [])) fun l=>ae (au 12 [] l) fun m=>M.pure (AV.tup [.agg [nth (aa m) 0,nth (aa m) 1,nth (aa m) 2,nth (aa m) 3,nth (aa m) 4,nth (aa m) 5,nth (aa m) 6,nth (aa m) 7,nth (aa m) 8,nth (aa m) 9,nth (aa m) 10,nth (aa m) 11],.bool false])) (ae (ah (aj T 30 i j)) fun n=>ae (ah (af T 61 n)) fun o=>ae (au 12 [] o) fun p=>M.pure (AV.tup [.agg [nth (aa p) 0,nth (aa p) 1,nth (aa p) 2,nth (aa p) 3,nth (aa p) 4,nth (aa p) 5,nth (aa p) 6,nth (aa p) 7,nth (aa p) 8,nth (aa p) 9,nth (aa p) 10,nth (aa p) 11],.bool true])))
def E38(a0 a1 a2:AV):EE 38 Tryz.f38 Cb [a0,a1,a2] (fun c x=>S38 c x a0 a1 a2):=fun _ _=>by kernel_rfl
def C38(a0 a1 a2:AV):ai pg 38 [a0,a1,a2]=S38 (ai pg) ak a0 a1 a2:=(cr aG rfl rfl rfl _).trans (E38 a0 a1 a2 _ _)
def L45_0(call:CC)(fx:b7 AV)(a:RR)(b:List AV):M AV:=ae (ah (ao T .lss 3 (nth b 5) (nth b 4))) fun c=>az c (ae (ah (aj T 28 (nth b 3) (nth b 5))) fun d=>ae (ah (af T 66 d)) fun e=>ae (aR 3 e) fun f=>ae (ah (ab T 66 (.ip (aa f)) 0)) fun g=>ae (ah (af T 9 g)) fun h=>ae (ah (aj T 37 (nth b 1) (nth b 5))) fun i=>ae (ah (af T 42 i)) fun j=>ae (cX (call 93 [.agg [nth b 10,nth b 11,nth b 12],h,j])) fun k=>ae (au 3 [] k) fun l=>ae (ah (ao T .add 3 (nth b 5) (.int .i64 1))) fun m=>a [nth b 0,nth b 1,nth b 2,nth b 3,nth b 4,m,nth b 6,nth b 7,nth b 8,nth b 9,nth (aa l) 0,nth (aa l) 1,nth (aa l) 2]) (ae (ah (br (nth b 0))) fun n=>ae (ah (ab T 98 n 3)) fun o=>ae (a7 T 3 o) fun p=>ae (ah (ao T .add 3 p (.int .i64 1))) fun q=>ae (ah (br (nth b 0))) fun r=>ae (ah (ab T 98 r 3)) fun s=>ae (bH T 3 s q) fun u=>ae (ah (ab T 61 (nth b 2) 5)) fun v=>ae (ah (af T 59 v)) fun w=>ae (call 81 [nth b 0,.agg [nth b 10,nth b 11,nth b 12],w]) fun x=>ae (aR 4 x) fun y=>ae (ah (br (nth b 0))) fun z=>ae (ah (ab T 98 z 3)) fun A=>ae (a7 T 3 A) fun B=>ae (ah (ao T .sub 3 B (.int .i64 1))) fun C=>ae (ah (br (nth b 0))) fun D=>ae (ah (ab T 98 D 3)) fun E=>ae (bH T 3 E C) fun F=>ae (ah (af T 42 (.ip (aa y)))) fun G=>ae (au 4 [] G) fun H=>M.pure (AV.agg [nth (aa H) 0,nth (aa H) 1,nth (aa H) 2,nth (aa H) 3]))
def K45_0(call:CC)(fx:b7 AV)(a:List AV):M AV:=ae (ah (bi T false 166 [(0,nth a 1)])) fun b=>ae (au 3 [] b) fun c=>ae (ah (ab T 61 (nth a 3) 2)) fun d=>ae (ah (af T 28 d)) fun e=>ae (ah (aE T 28 e)) fun f=>fx (L45_0 call fx) [nth a 0,nth a 2,nth a 3,e,f,.int .i64 0,nth a 4,nth a 5,nth a 6,nth a 7,nth (aa c) 0,nth (aa c) 1,nth (aa c) 2]
def XL45_0{call:CC}:cf (L45_0 call ak) fun _n=>L45_0 call ak  :=by
 intro a b c d;unfold L45_0;exact (lb fun _=>(aB (by(iterate 10 refine lb fun _=>?_);exact (c _)) (aL.const _)))
def FL45_0(call:CC)(vs:List AV):ak (L45_0 call ak) vs=L45_0 call ak  (ak (L45_0 call ak)) vs:=bq (XL45_0) vs
def S45(call:CC)(fx:b7 AV)(a0 a1 a2 a3:AV):M AV:=ae (ah (br a0)) fun a=>ae (ah (ab T 98 a 3)) fun b=>ae (a7 T 3 b) fun c=>ae (ah (ao T .lss 3 c (.int .i64 60))) fun d=>ae (call 92 [d,.int .i64 6]) fun e=>jn (K45_0 call fx) fun f=>ae (ah (ab T 61 (.ip (aa a2)) 1)) fun g=>ae (ah (af T 4 g)) fun h=>az h (ae (ah (br a0)) fun i=>ae (ah (ab T 98 i 4)) fun j=>ae (ah (ab T 46 j 3)) fun k=>ae (a7 T 23 k) fun l=>ae (ah (br a0)) fun m=>ae (ah (ab T 98 m 0)) fun n=>ae (a7 T 22 n) fun o=>ae (ah (aj T 22 o a1)) fun p=>ae (ah (ab T 34 p 0)) fun q=>ae (ah (af T 9 q)) fun r=>ae (ah (ab T 61 (.ip (aa a2)) 0)) fun s=>ae (ah (af T 9 s)) fun u=>ae (call 42 [a3]) fun v=>ae (ah (bi T false 39 [(0,r),(1,u),(2,v)])) fun w=>ae (ah (aD T 23 1 [(0,w)])) fun x=>ae (appH T 23 false l x) fun y=>ae (ah (br a0)) fun z=>ae (ah (ab T 98 z 4)) fun A=>ae (ah (ab T 46 A 3)) fun B=>ae (bH T 23 B y) fun C=>f [a0,a1,a3,.ip (aa a2),.int .i64 0,.int .i64 0,.sl [],.sl []]) (f [a0,a1,a3,.ip (aa a2),.int .i64 0,.int .i64 0,.sl [],.sl []])
def E45(a0 a1 a2 a3:AV):EE 45 Tryz.f45 Cg [a0,a1,a2,a3] (fun c x=>S45 c x a0 a1 a2 a3):=fun _ _=>by kernel_rfl
def C45(a0 a1 a2 a3:AV):ai pg 45 [a0,a1,a2,a3]=S45 (ai pg) ak a0 a1 a2 a3:=(cr aG rfl rfl rfl _).trans (E45 a0 a1 a2 a3 _ _)
def L50_0(call:CC)(fx:b7 AV)(a:RR)(b:List AV):M AV:=ae (ah (ao T .lss 3 (nth b 4) (nth b 3))) fun c=>az c (ae (ah (aj T 44 (nth b 2) (nth b 4))) fun d=>ae (ah (af T 53 d)) fun e=>ae (aR 2 e) fun f=>ae (ah (aj T 44 (nth b 0) (nth b 4))) fun g=>ae (ah (af T 53 g)) fun h=>ae (aR 2 h) fun i=>ae (ah (af T 53 (.ip (aa f)))) fun j=>ae (ah (af T 53 (.ip (aa i)))) fun k=>ae (bO call (nth b 1) [j,k]) fun l=>ae (ah (ka UnOp.not l)) fun m=>az m (M.pure (AV.bool false)) (ae (ah (ao T .add 3 (nth b 4) (.int .i64 1))) fun n=>a [nth b 0,nth b 1,nth b 2,nth b 3,n])) (M.pure (AV.bool true))
def XL50_0{call:CC}:cf (L50_0 call ak) fun _n=>L50_0 call ak  :=by
 intro a b c d;unfold L50_0;exact (lb fun _=>(aB (by(iterate 10 refine lb fun _=>?_);exact (aB (aL.const _) (lb fun _=>c _))) (aL.const _)))
def FL50_0(call:CC)(vs:List AV):ak (L50_0 call ak) vs=L50_0 call ak  (ak (L50_0 call ak)) vs:=bq (XL50_0) vs
def S50(call:CC)(fx:b7 AV)(a0 a1 a2:AV):M AV:=ae (ah (aE T 44 a0)) fun a=>ae (ah (aE T 44 a1)) fun b=>ae (ah (ao T .neq 3 a b)) fun c=>az c (M.pure (AV.bool false)) (ae (ah (aE T 44 a0)) fun d=>fx (L50_0 call fx) [a1,a2,a0,d,.int .i64 0])
def E50(a0 a1 a2:AV):EE 50 Tryz.f50 Cl [a0,a1,a2] (fun c x=>S50 c x a0 a1 a2):=fun _ _=>by kernel_rfl
def C50(a0 a1 a2:AV):ai pg 50 [a0,a1,a2]=aH (S50 (ai pg) ak (cl ar a0) (cl ar a1) (cl ar a2)):=(aA aG rfl rfl rfl _).trans (Kv aH (E50 (cl ar a0) (cl ar a1) (cl ar a2) _ _))
def L52_0(call:CC)(fx:b7 AV)(a:RR)(b:List AV):M AV:=ae (ah (ao T .lss 3 (nth b 3) (nth b 2))) fun c=>az c (ae (ah (aj T 43 (nth b 0) (nth b 3))) fun d=>ae (ah (af T 51 d)) fun e=>ae (ah (aj T 43 (nth b 1) (nth b 3))) fun f=>ae (ah (af T 51 f)) fun g=>ae (ah (ao T .neq 51 e g)) fun h=>az h (M.pure (AV.bool false)) (ae (ah (ao T .add 3 (nth b 3) (.int .i64 1))) fun i=>a [nth b 0,nth b 1,nth b 2,i])) (M.pure (AV.bool true))
def XL52_0{call:CC}:cf (L52_0 call ak) fun _n=>L52_0 call ak  :=by
 intro a b c d;unfold L52_0;exact (lb fun _=>(aB (by(iterate 5 refine lb fun _=>?_);exact (aB (aL.const _) (lb fun _=>c _))) (aL.const _)))
def FL52_0(call:CC)(vs:List AV):ak (L52_0 call ak) vs=L52_0 call ak  (ak (L52_0 call ak)) vs:=bq (XL52_0) vs
def S52(call:CC)(fx:b7 AV)(a0 a1:AV):M AV:=ae (ah (aE T 43 a0)) fun a=>ae (ah (aE T 43 a1)) fun b=>ae (ah (ao T .neq 3 a b)) fun c=>az c (M.pure (AV.bool false)) (ae (ah (aE T 43 a0)) fun d=>fx (L52_0 call fx) [a0,a1,d,.int .i64 0])
def E52(a0 a1:AV):EE 52 Tryz.f52 Cn [a0,a1] (fun c x=>S52 c x a0 a1):=fun _ _=>by kernel_rfl
def C52(a0 a1:AV):ai pg 52 [a0,a1]=aH (S52 (ai pg) ak (cl ar a0) (cl ar a1)):=(aA aG rfl rfl rfl _).trans (Kv aH (E52 (cl ar a0) (cl ar a1) _ _))
def S84(call:CC)(fx:b7 AV)(a0:AV):M AV:=ae (ah (af T 42 (.ip (aa a0)))) fun a=>ae (call 41 [a]) fun b=>ae (ah (ka UnOp.not b)) fun c=>M.pure c
def E84(a0:AV):EE 84 Tryz.f84 Cv [a0] (fun c x=>S84 c x a0):=fun _ _=>by kernel_rfl
def C84(a0:AV):ai pg 84 [a0]=aH (S84 (ai pg) ak (cl ar a0)):=(aA aG rfl rfl rfl _).trans (Kv aH (E84 (cl ar a0) _ _))
def S88(call:CC)(fx:b7 AV)(a0 a1:AV):M AV:=ae (ah (ab T 61 (.ip (aa a0)) 0)) fun a=>ae (ah (af T 9 a)) fun b=>ae (ah (af T 9 a1)) fun c=>ae (ah (ao T .eql 9 b c)) fun d=>M.pure d
def E88(a0 a1:AV):EE 88 Tryz.f88 CB [a0,a1] (fun c x=>S88 c x a0 a1):=fun _ _=>by kernel_rfl
def C88(a0 a1:AV):ai pg 88 [a0,a1]=aH (S88 (ai pg) ak (cl ar a0) (cl ar a1)):=(aA aG rfl rfl rfl _).trans (Kv aH (E88 (cl ar a0) (cl ar a1) _ _))
def L89_0(call:CC)(fx:b7 AV)(a:RR)(b:List AV):M AV:=ae (ah (ao T .lss 3 (nth b 3) (nth b 2))) fun c=>az c (ae (ah (aj T 37 (nth b 0) (nth b 3))) fun d=>ae (ah (af T 42 d)) fun e=>ae (bO call (nth b 1) [e]) fun f=>az f (M.pure (nth b 3)) (ae (ah (ao T .add 3 (nth b 3) (.int .i64 1))) fun g=>a [nth b 0,nth b 1,nth b 2,g])) (M.pure (AV.int .i64 (-1)))
def XL89_0{call:CC}:cf (L89_0 call ak) fun _n=>L89_0 call ak  :=by
 intro a b c d;unfold L89_0;exact (lb fun _=>(aB (lb fun _=>(lb fun _=>(lb fun _=>(aB (aL.const _) (lb fun _=>c _))))) (aL.const _)))
def FL89_0(call:CC)(vs:List AV):ak (L89_0 call ak) vs=L89_0 call ak  (ak (L89_0 call ak)) vs:=bq (XL89_0) vs
def S89(call:CC)(fx:b7 AV)(a0 a1:AV):M AV:=ae (ah (aE T 37 a0)) fun a=>fx (L89_0 call fx) [a0,a1,a,.int .i64 0]
def E89(a0 a1:AV):EE 89 Tryz.f89 CE [a0,a1] (fun c x=>S89 c x a0 a1):=fun _ _=>by kernel_rfl
def C89(a0 a1:AV):ai pg 89 [a0,a1]=aH (S89 (ai pg) ak (cl ar a0) (cl ar a1)):=(aA aG rfl rfl rfl _).trans (Kv aH (E89 (cl ar a0) (cl ar a1) _ _))
def L132_0(call:CC)(fx:b7 AV)(a:RR)(b:List AV):M AV:=ae (ah (ao T .lss 3 (nth b 7) (nth b 6))) fun c=>az c (ae (ah (aj T 29 (nth b 5) (nth b 7))) fun d=>ae (ah (af T 59 d)) fun e=>ae (aR 6 e) fun f=>ae (ah (af T 166 (nth b 1))) fun g=>ae (ah (af T 59 (.ip (aa f)))) fun h=>ae (call 81 [nth b 0,g,h]) fun i=>ae (ah (aD T 37 1 [(0,i)])) fun j=>ae (ah (cu T 37 (nth b 4) j)) fun k=>ae (ah (ao T .add 3 (nth b 7) (.int .i64 1))) fun l=>a [nth b 0,nth b 1,nth b 2,nth b 3,k,nth b 5,nth b 6,l,nth b 8,nth b 9,nth b 10,nth b 11]) (ae (ah (af T 61 (nth b 3))) fun m=>ae (call 45 [nth b 0,nth b 2,m,nth b 4]) fun n=>ae (au 4 [] n) fun o=>M.pure (AV.agg [nth (aa o) 0,nth (aa o) 1,nth (aa o) 2,nth (aa o) 3]))
def K132_0(call:CC)(fx:b7 AV)(a:List AV):M AV:=ae (ah (ab T 59 (nth a 2) 2)) fun b=>ae (ah (af T 9 b)) fun c=>ae (call 38 [nth a 0,nth a 3,c]) fun d=>ae (ah (bP d 0)) fun e=>ae (ah (bP d 1)) fun f=>ae (aR 12 e) fun g=>ae (aC f true 1 (ae (ah (ab T 59 (nth a 2) 3)) fun h=>ae (ah (af T 9 h)) fun i=>ae (ah (ao T .eql 9 i (.str []))) fun j=>M.pure [j])) fun k=>ae (aC (nth k 0) false 1 (ae (ah (ab T 61 (.ip (aa g)) 1)) fun l=>ae (ah (af T 4 l)) fun m=>M.pure [m])) fun n=>ae (aC f true 1 (ae (ah (aU (nth k 0) (.bool true) (nth n 0))) fun o=>M.pure [o])) fun p=>ae (ah (aU f (nth p 0) (.bool false))) fun q=>ae (call 92 [q,.int .i64 12]) fun r=>ae (ah (ab T 59 (nth a 2) 5)) fun s=>ae (ah (af T 29 s)) fun u=>ae (ah (aE T 29 u)) fun v=>ae (ah (ab T 61 (.ip (aa g)) 2)) fun w=>ae (ah (af T 28 w)) fun x=>ae (ah (aE T 28 x)) fun y=>ae (ah (ao T .eql 3 v y)) fun z=>ae (call 92 [z,.int .i64 13]) fun A=>ae (ah (ab T 59 (nth a 2) 5)) fun B=>ae (ah (af T 29 B)) fun C=>ae (ah (aE T 29 C)) fun D=>fx (L132_0 call fx) [nth a 0,nth a 1,nth a 3,.ip (aa g),.sl [],C,D,.int .i64 0,nth a 4,nth a 5,nth a 6,nth a 7]
def XL132_0{call:CC}:cf (L132_0 call ak) fun _n=>L132_0 call ak  :=by
 intro a b c d;unfold L132_0;exact (lb fun _=>(aB (by(iterate 9 refine lb fun _=>?_);exact (c _)) (aL.const _)))
def FL132_0(call:CC)(vs:List AV):ak (L132_0 call ak) vs=L132_0 call ak  (ak (L132_0 call ak)) vs:=bq (XL132_0) vs
def S132(call:CC)(fx:b7 AV)(a0 a1 a2:AV):M AV:=ae (ah (ab T 166 (.ip (aa a1)) 0)) fun a=>ae (ah (af T 3 a)) fun b=>jn (K132_0 call fx) fun c=>ae (ah (ab T 59 (.ip (aa a2)) 3)) fun d=>ae (ah (af T 9 d)) fun e=>ae (ah (ao T .neq 9 e (.str []))) fun f=>az f (ae (ah (ab T 59 (.ip (aa a2)) 3)) fun g=>ae (ah (af T 9 g)) fun h=>ae (call 37 [a0,h]) fun i=>c [a0,.ip (aa a1),.ip (aa a2),i,.int .i64 0,.int .i64 0,.sl [],.sl []]) (c [a0,.ip (aa a1),.ip (aa a2),b,.int .i64 0,.int .i64 0,.sl [],.sl []])
def E132(a0 a1 a2:AV):EE 132 Tryz.f132 yc [a0,a1,a2] (fun c x=>S132 c x a0 a1 a2):=fun _ _=>by kernel_rfl
def C132(a0 a1 a2:AV):ai pg 132 [a0,a1,a2]=S132 (ai pg) ak a0 a1 a2:=(cr aG rfl rfl rfl _).trans (E132 a0 a1 a2 _ _)
end
end Go.Proofs.YtmgjpakjlbofpaaGreat
