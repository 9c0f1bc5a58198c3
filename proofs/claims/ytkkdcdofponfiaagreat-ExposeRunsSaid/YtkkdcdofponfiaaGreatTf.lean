/- What the functions compute, part 6. Conditions: bounds. -/
import Derived.Test.YtkkdcdofponfiaaGreatTe
import Derived.Test.YtkkdcdofponfiaaGreatRows
import Derived.Shelf.Vars
import Derived.ProofKit
import Derived.Deep.DeepHandedRow
import Derived.Deep.DeepWitnessRowRef
import Derived.Deep.DeepLaidRun
set_option linter.defProp false
set_option linter.unusedSimpArgs false
set_option linter.unusedVariables false
namespace Go.Proofs.YtkkdcdofponfiaaGreat
open Go Go.Av Go.Av.Ap Go.RowKit
set_option maxRecDepth 100000
def MZ{e:AV}{y:az×AV}(h:ET e=some y):∃s0 b1 l2 n3 l4 n5 n6 n7 s8 s9 l10 l11,e= .agg [.str s0,.bool b1,.sl l2,qi n3,.sl l4,qi n5,qi n6,qi n7,.str s8,.str s9,.sl l10,.sl l11]/\y=(s0,.agg [.str s0,.bool b1,.sl l2,qi n3,.sl l4,qi n5,qi n6,qi n7,.str s8,.str s9,.sl l10,.sl l11]):=by
 unfold ET at h
 grind
def NA{e:AV}{m:az×List (az×AV)}(h:HT e=some m):∃s0 l1 l2 l3 l4 b5 l6 l7 l8,e= .agg [.str s0,.sl l1,.sl l2,.sl l3,.sl l4,.bool b5,.sl l6,.sl l7,.sl l8]/\∃l,l4.mapM ET=some l/\m=(s0,l):=by
 unfold HT at h;split at h
 ·rename_i s _ _ _ fs _ _ _ _;cases hl:fs.mapM ET with
  |none=>grind
  |some l=>grind
 ·cases h
def qY{α γ:Type}{f:α->Option γ}{x:α}{xs:List α}{l:List γ}(h:(x:: xs).mapM f=some l):∃y ys,f x=some y/\xs.mapM f=some ys/\l=y:: ys:=by
 rw[adt]at h;cases h1:f x with
 |none=>grind
 | some y=>
  cases h2:xs.mapM f with
  |none=>grind
  |some ys=>
   grind
theorem Jb{S:ak}{β:List bG}{b sz:Nat}:(es:List AV)->(off:Nat)->(l:List (az×AV))->ca S β es b off sz->es.mapM ET=some l->
  ∃zs:List F12,mN S β l zs/\zs.length=es.length/\∀j,j<zs.length->S b (off+j*12)=some (.string (zs[j]?.getD default).n)/\S b (off+j*12+1)=some (zs[j]?.getD default).a1/\S b (off+j*12+2)=some (zs[j]?.getD default).a2/\S b (off+j*12+3)=some (zs[j]?.getD default).a3/\S b (off+j*12+4)=some (zs[j]?.getD default).a4/\S b (off+j*12+5)=some (zs[j]?.getD default).a5/\S b (off+j*12+6)=some (zs[j]?.getD default).a6/\S b (off+j*12+7)=some (zs[j]?.getD default).a7/\S b (off+j*12+8)=some (zs[j]?.getD default).a8/\S b (off+j*12+9)=some (zs[j]?.getD default).a9/\S b (off+j*12+10)=some (zs[j]?.getD default).a10/\S b (off+j*12+11)=some (zs[j]?.getD default).a11
 |[],off,l,_,h=>by
  simp at h;subst h;exact⟨[],rfl,rfl,fun j hj=>by simp at hj⟩
 | e:: es,off,l,he,h=>by
  obtain⟨y,l',h1,h2,rfl⟩:=qY h;simp only[ca]at he;obtain⟨⟨v,hv,hs,hc⟩,he⟩:=he;obtain⟨s0,b1,l2,n3,l4,n5,n6,n7,s8,s9,l10,l11,rfl,rfl⟩:=MZ h1;have hv0:=hv;simp only[VR,aZ]at hv;obtain⟨vs,rfl,_,_,rfl,⟨x0,rfl,hx0⟩,_,_,rfl,rfl,_,_,rfl,⟨p2,c2,rfl,hp2⟩,_,_,rfl,rfl,_,_,rfl,⟨p4,c4,rfl,hp4⟩,_,_,rfl,rfl,_,_,rfl,rfl,_,_,rfl,rfl,_,_,rfl,⟨x8,rfl,hx8⟩,_,_,rfl,⟨x9,rfl,hx9⟩,_,_,rfl,⟨p10,c10,rfl,hp10⟩,_,_,rfl,⟨p11,c11,rfl,hp11⟩,rfl⟩:=hv;have hsz:sz=12:=by rw[<- hs];rfl
  subst hsz;obtain⟨zs,hR,hl,hZ⟩:=Jb es (off+12) l' he h2;refine⟨⟨x0,.bool b1,.slice p2 l2.length c2,.int .i64 n3,.slice p4 l4.length c4,.int .i64 n5,.int .i64 n6,.int .i64 n7,.string x8,.string x9,.slice p10 l10.length c10,.slice p11 l11.length c11⟩:: zs,⟨_,_,rfl,⟨hx0,hv0,⟨_,rfl⟩,⟨_,_,_,rfl⟩,⟨_,rfl⟩,⟨_,_,_,rfl⟩,⟨_,rfl⟩,⟨_,rfl⟩,⟨_,rfl⟩,⟨_,rfl⟩,⟨_,rfl⟩,⟨_,_,_,rfl⟩,⟨_,_,_,rfl⟩⟩,hR⟩,by simp[hl],fun j hj=>?_⟩;cases j with
  |zero=>exact⟨by simpa using hc 0 _ rfl,by simpa using hc 1 _ rfl,by simpa using hc 2 _ rfl,by simpa using hc 3 _ rfl,by simpa using hc 4 _ rfl,by simpa using hc 5 _ rfl,by simpa using hc 6 _ rfl,by simpa using hc 7 _ rfl,by simpa using hc 8 _ rfl,by simpa using hc 9 _ rfl,by simpa using hc 10 _ rfl,by simpa using hc 11 _ rfl⟩
  |succ j=>
   grind
theorem Jn{S:ak}{β:List bG}{w:World}(hw:Wf S w){b sz:Nat}:(es:List AV)->(off:Nat)->(l:List (az×List (az×AV)))->ca S β es b off sz->es.mapM HT=some l->
  ∃zs:List M9,nI S β w l zs/\zs.length=es.length/\∀j,j<zs.length->S b (off+j*9)=some (.string (zs[j]?.getD default).n)/\S b (off+j*9+1)=some (zs[j]?.getD default).a1/\S b (off+j*9+2)=some (zs[j]?.getD default).a2/\S b (off+j*9+3)=some (zs[j]?.getD default).a3/\S b (off+j*9+4)=some (zs[j]?.getD default).a4/\S b (off+j*9+5)=some (zs[j]?.getD default).a5/\S b (off+j*9+6)=some (zs[j]?.getD default).a6/\S b (off+j*9+7)=some (zs[j]?.getD default).a7/\S b (off+j*9+8)=some (zs[j]?.getD default).a8
 |[],off,l,_,h=>by
  simp at h;subst h;exact⟨[],rfl,rfl,fun j hj=>by simp at hj⟩
 | e :: es,off,l,he,h=>by
  obtain⟨y,l',h1,h2,rfl⟩:=qY h;simp only[ca]at he;obtain⟨⟨v,hv,hs,hc⟩,he⟩:=he;obtain⟨s0,l1,l2,l3,l4,b5,l6,l7,l8,rfl,fl,hfl,rfl⟩:=NA h1;simp only[VR,aZ]at hv;obtain⟨vs,rfl,_,_,rfl,⟨x0,rfl,hx0⟩,_,_,rfl,⟨p1,c1,rfl,hp1⟩,_,_,rfl,⟨p2,c2,rfl,hp2⟩,_,_,rfl,⟨p3,c3,rfl,hp3⟩,_,_,rfl,⟨p4,c4,rfl,hp4⟩,_,_,rfl,rfl,_,_,rfl,⟨p6,c6,rfl,hp6⟩,_,_,rfl,⟨p7,c7,rfl,hp7⟩,_,_,rfl,⟨p8,c8,rfl,hp8⟩,rfl⟩:=hv;have hsz:sz=9:=by rw[<- hs];rfl
  subst hsz;obtain⟨zs,hR,hl,hZ⟩:=Jn hw es (off+9) l' he h2;have hf:∃fz,mN S β fl fz/\nk w.heap.size w.heap.size w (.slice p4 l4.length c4) fz:=by
   cases hl4:l4 with
   |nil=>
    subst hl4;simp at hfl;subst hfl;exact⟨[],rfl,.inl ⟨rfl,_,_,rfl⟩⟩
   | cons f fs=>
    rw[hl4]at hp4 hfl;obtain⟨q1,q2,q3⟩:=hp4;cases p4 with
    |none=>grind
    | some q=>
     obtain⟨g1,sz,g2⟩:=q3 q rfl;obtain⟨qb,qo,qp⟩:=q;have hqp:qp=none:=g1 qr;subst hqp;obtain⟨fz,r1,r2,r3⟩:=Jb (f:: fs) qo fl g2 hfl;refine⟨fz,r1,.inr ⟨qb,qo,c4,by rw[r2],?_,?_,fun j hj=>?_⟩⟩
     ·exact hw.lt (r3 0 (by rw[r2];simp)).1
     ·exact Nat.ne_of_lt (hw.lt (r3 0 (by rw[r2];simp)).1)
     ·obtain⟨d0,d1,d2,d3,d4,d5,d6,d7,d8,d9,d10,d11⟩:=r3 j hj;exact⟨hw _ _ _ d0,hw _ _ _ d1,hw _ _ _ d2,hw _ _ _ d3,hw _ _ _ d4,hw _ _ _ d5,hw _ _ _ d6,hw _ _ _ d7,hw _ _ _ d8,hw _ _ _ d9,hw _ _ _ d10,hw _ _ _ d11⟩
  obtain⟨fz,hf1,hf2⟩:=hf;refine⟨⟨x0,.slice p1 l1.length c1,.slice p2 l2.length c2,.slice p3 l3.length c3,.slice p4 l4.length c4,.bool b5,.slice p6 l6.length c6,.slice p7 l7.length c7,.slice p8 l8.length c8⟩:: zs,⟨_,_,rfl,⟨hx0,fz,hf1,hf2,⟨_,_,_,rfl⟩,⟨_,_,_,rfl⟩,⟨_,_,_,rfl⟩,⟨_,_,_,rfl⟩,⟨_,rfl⟩,⟨_,_,_,rfl⟩,⟨_,_,_,rfl⟩,⟨_,_,_,rfl⟩⟩,hR⟩,by simp[hl],fun j hj=>?_⟩;cases j with
  |zero=>exact⟨by simpa using hc 0 _ rfl,by simpa using hc 1 _ rfl,by simpa using hc 2 _ rfl,by simpa using hc 3 _ rfl,by simpa using hc 4 _ rfl,by simpa using hc 5 _ rfl,by simpa using hc 6 _ rfl,by simpa using hc 7 _ rfl,by simpa using hc 8 _ rfl⟩
  |succ j=>
   grind
def X5(call:FuncId->List AV->M AV)(args:List AV)(h:Hp)(S:ak)(β:List bG)(w:World)(vs:List Value)(hr:yd call args h≠.fail)(hg:zA S β h w)(hw:Wf S w)(hh:dh S β w h)(hv:aZ S β args vs):
  Calls Tryz.prog 65 vs.toArray w (eF none S β h w (yd call args h)):=by
 unfold yd at hr |-;split at hr
 ·rename_i ms;cases hm:ms.mapM HT with
  |none=>grind
  | some l=>
   rw[hm]at hr;simp only at hr |-;by_cases hc:l.length<=1000000/\∀m∈l,m.2.length<=1000000
   ·rw [aaH hc];simp only[aZ,VR]at hv;obtain⟨_,_,rfl,⟨a,cap,rfl,hle,hnil,hq⟩,rfl⟩:=hv;have hzs:∃zs:List M9,nI S β w l zs/\ms.length=zs.length/\(zs=[]\/∃b off,a=some ⟨b,off,none⟩/\b<w.heap.size/\wF w b off zs):=by
     cases hms:ms with
     |nil=>
      subst hms;simp at hm;subst hm;exact⟨[],rfl,rfl,.inl rfl⟩
     | cons e es=>
      rw[hms]at hm hle hq;cases a with
      |none=>grind
      | some q=>
       obtain⟨g1,sz,g2⟩:=hq q rfl;obtain⟨qb,qo,qp⟩:=q;have hqp:qp=none:=g1 qr;subst hqp;obtain⟨zs,r1,r2,r3⟩:=Jn hw (e:: es) qo l g2 hm;refine⟨zs,r1,r2.symm,.inr ⟨qb,qo,rfl,?_,fun j hj=>?_⟩⟩
       ·exact hw.lt (r3 0 (by rw[r2];simp)).1
       ·obtain⟨d0,d1,d2,d3,d4,d5,d6,d7,d8⟩:=r3 j hj;exact⟨hw _ _ _ d0,hw _ _ _ d1,hw _ _ _ d2,hw _ _ _ d3,hw _ _ _ d4,hw _ _ _ d5,hw _ _ _ d6,hw _ _ _ d7,hw _ _ _ d8⟩
    obtain⟨zs,hR,hlen,hcl⟩:=hzs
    have:=TN Fence.wide 20 trivial trivial trivial rfl Vc S β a ms.length cap zs l w hR hlen hc hcl
    rw[callsIn_wide]at this;refine this.mono ?_;rintro e w' ⟨bo,rfl,hbo,hmap,hB⟩;exact Kg hw hh hB CY hbo hmap
   grind
 grind
def Zy{α:Type}{f k:Nat}{x:α}{o:Option α}{y:α}(h:(bif Nat.beq f k then some x else o)=some y):(f=k/\x=y)\/o=some y:=by
 cases hb:Nat.beq f k with
 |true=>simp_all
 |false=>grind
def Mf{α:Type}{f k:Nat}{x y:α}{o:Option α}{P:Prop}(h1:f=k->x=y->P)(h2:o=some y->P)(h:(bif Nat.beq f k then some x else o)=some y):P:=(Zy h).elim (fun h=>h1 h.1 h.2) h2
def good:GoodPg Tryz.prog pg where
 tok:=tok
 funcs:=xU
 other:=by
  intro f E hE call hC args h S β w vs hr hg hw hh hv;have h0:other f=some E:=hE;unfold other at h0;revert h0
  repeat' refine Mf ?_ ?_
  all_goals first
   |(intro h0;cases h0;done)
   |(rintro rfl rfl;exact absurd rfl hr)
   |(rintro rfl rfl;exact⟨X5 call args h S β w vs hr hg hw hh hv,BT⟩)
   |(rintro rfl rfl;exact⟨Uq call args h S β w vs hr hg hw hh hv,BT⟩)
   |(rintro rfl rfl;exact⟨X6 call args h S β w vs hr hg hw hh hv,BT⟩)
   |(rintro rfl rfl;exact⟨X4 call args h S β w vs hr hg hw hh hv,BT⟩)
   |(rintro rfl rfl;exact⟨Up call args h S β w vs hr hg hw hh hv,BT⟩)
   |(rintro rfl rfl;exact⟨X3 call args h S β w vs hr hg hw hh hv,BT⟩)
   |(rintro rfl rfl;exact⟨NM call args h S β w vs hr hg hw hh hv,BT⟩)
   |(rintro rfl rfl;exact⟨X2 call args h S β w vs hr hg hw hh hv,BT⟩)
   |(rintro rfl rfl;exact⟨X7 call args h S β w vs hr hg hw hh hv,BT⟩)
   |(rintro rfl rfl;exact⟨Uo call args h S β w vs hr hg hw hh hv,BT⟩)
   |(rintro rfl rfl;exact⟨UK call hC args h S β w vs hr hg hw hh hv,BT⟩)
 nw:=by
  intro f hf;have h0:(bif Nat.beq f 57 then true else false)=true:=hf;cases hb:Nat.beq f 57 with
  |true=>
   have:=Nat.eq_of_beq_eq_true hb
   subst this;exact⟨_,rfl,fun call args=>AF _ _ _ _⟩
  |false=>grind
end Go.Proofs.YtkkdcdofponfiaaGreat
namespace Go.Proofs.YtkkdcdofponfiaaGreat
open Go Go.Av Go.ChangeShapes Go.WideShapes Go.ChangeAt Go.RowKit
set_option maxRecDepth 1000000
def Z1:ownKnob Tryz.prog.godebug=none:=BT
def TJ{W:World}(hS:W.ShapedOpen Tryz.prog):GOKw W:=by
 refine⟨?_⟩;exact cell_of_shapedOpen_int (zero:=#[.int .i64 0]) (t:=3) hS (of_decide_eq_true BT) BT rfl BT BT Tryz.underlying3
noncomputable def Bb(os:Os):World:=World.holding Tryz.prog os ⟨#[],#[],[]⟩
end Go.Proofs.YtkkdcdofponfiaaGreat
namespace Go.Proofs.YtkkdcdofponfiaaGreat
open Go Go.Av Go.Av.Ap Go.RowKit
set_option maxRecDepth 1000000
section
variable {H:Type} {enc:TypeId×Value->H} {W:World}
theorem iJ:reachBytes=140737488351232:=rfl
theorem Dg(N:Nat):Rd enc Tryz.prog W N 28 (fun l:List az=>[strs l]) (fun l=>l.length<=8796093022208):=
 (iI (nG Tryz.underlying9) Tryz.underlying28 (by kernel_rfl:_=1) Vc (by kernel_rfl:_=16) (Ew fun _=>rfl)).map id (fun _=>rfl) (fun l h=>by grind [iJ])
theorem QA(N:Nat):Rd enc Tryz.prog W N 35 (fun l:List Int=>[ints l]) (fun l=>l.length<=140737488355328):=
 (iI (jz Tryz.underlying3) Tryz.underlying35 (by kernel_rfl:_=1) Vc (by kernel_rfl:_=8) (Ew fun _=>rfl)).map id (fun _=>rfl) (fun l h=>by grind [iJ])
theorem Val.lim_mk{k n:Int}{ns:List az}{vs:List Val}(h1:ns.length<=140737488355328)(h2:vs.length<=140737488355328)(h3:∀v∈vs,v.Lim):(Val.mk k n ns vs).Lim:=fun j=>match j with
 |0=>trivial
 |j+1=>⟨h1,h2,fun x hx=>h3 x hx j⟩
theorem Exp.lim_mk{o n:Int}{s m:az}{ns:List az}{es:List Exp}(h1:ns.length<=8796093022208)(h2:es.length<=140737488355328)(h3:∀v∈es,v.Lim):(Exp.mk o n s m ns es).Lim:=fun j=>match j with
 |0=>trivial
 |j+1=>⟨h1,h2,fun x hx=>h3 x hx j⟩
theorem Ty.lim_mk{k:Int}{fs:List bQ}(h2:fs.length<=140737488355328)(h3:∀v∈fs,v.2.Lim):(Ty.mk k fs).Lim:=fun j=>match j with
 |0=>trivial
 |j+1=>⟨h2,fun x hx=>h3 x hx j⟩
theorem yW{N:Nat}(h:Rd enc Tryz.prog W N 47 (fun v:Val=>ab v.av) Val.Lim):Rd enc Tryz.prog W N 34 (fun l:List Val=>[vals l]) (fun l=>l.length<=140737488355328/\∀v∈l,v.Lim):=
 (iI h Tryz.underlying34 (by kernel_rfl:_=4) Vc (by kernel_rfl:_=64) (ev:=Val.av) (jc fun v=>AN)).map id (fun l=>by simp[vals,fG]) (fun l h=>⟨by grind [iJ],h.2⟩)
theorem rd_val:∀N,Rd enc Tryz.prog W N 47 (fun v:Val=>ab v.av) Val.Lim
 |0=>.zero
 | N+1=>(eW Tryz.underlying47 BT (aH (jz Tryz.underlying3) rfl (by kernel_rfl:_=1) (aH (jz Tryz.underlying3) rfl (by kernel_rfl:_=1) (aH (Dg N) rfl (by kernel_rfl:_=1)
   (aH (yW (rd_val N)) rfl (by kernel_rfl:_=1) gC))))).map (fun x=>Val.mk x.1 x.2.1 x.2.2.1 x.2.2.2.1) (fun x=>AN) (fun x h=>Val.lim_mk qr h.2.2.2.1.1 h.2.2.2.1.2)
theorem Jw(N:Nat):Rd enc Tryz.prog W N 34 (fun l:List Val=>[vals l]) (fun l=>l.length<=140737488355328/\∀v∈l,v.Lim):=yW (rd_val N)
theorem yU{N:Nat}(h:Rd enc Tryz.prog W N 31 (fun v:Exp=>v.cells) Exp.Lim):Rd enc Tryz.prog W N 29 (fun l:List Exp=>[bY l]) (fun l=>l.length<=140737488355328/\∀v∈l,v.Lim):=
 (iI h Tryz.underlying29 (by kernel_rfl:_=6) Vc (by kernel_rfl:_=96) (ev:=Exp.av) (jc fun v=>rfl)).map id (fun l=>by simp[bY,gS]) (fun l h=>⟨by grind [iJ],h.2⟩)
theorem Dd:∀N,Rd enc Tryz.prog W N 31 (fun v:Exp=>v.cells) Exp.Lim
 |0=>.zero
 | N+1=>(eW Tryz.underlying31 BT (aH (jz Tryz.underlying3) rfl (by kernel_rfl:_=1) (aH (jz Tryz.underlying3) rfl (by kernel_rfl:_=1) (aH (nG Tryz.underlying9) rfl (by kernel_rfl:_=1) (aH (nG Tryz.underlying9) rfl (by kernel_rfl:_=1)
   (aH (Dg N) rfl (by kernel_rfl:_=1) (aH (yU (Dd N)) rfl (by kernel_rfl:_=1) gC))))))).map (fun x=>Exp.mk x.1 x.2.1 x.2.2.1 x.2.2.2.1 x.2.2.2.2.1 x.2.2.2.2.2.1) (fun x=>by grind [Exp.cells_eq,Exp.op,Exp.n,Exp.s,Exp.m,Exp.names,Exp.args]) (fun x h=>Exp.lim_mk h.2.2.2.2.1 h.2.2.2.2.2.1.1 h.2.2.2.2.2.1.2)
theorem De(N:Nat):Rd enc Tryz.prog W N 29 (fun l:List Exp=>[bY l]) (fun l=>l.length<=140737488355328/\∀v∈l,v.Lim):=yU (Dd N)
theorem yV{N:Nat}(h:Rd enc Tryz.prog W N 49 (fun v:Ty=>v.cells) Ty.Lim):Rd enc Tryz.prog W (N+1) 38 (fun l:List bQ=>[aB l]) (fun l=>l.length<=140737488355328/\∀v∈l,v.2.Lim):=
 (iI ((eW Tryz.underlying96 BT (aH (nG Tryz.underlying9) rfl (by kernel_rfl:_=1) (aH h rfl (by kernel_rfl:_=2) gC))).map (fun x=>((x.1,x.2.1):bQ)) (cells':=fun f=>ab (bF f)) (Ok':=fun f=>f.2.Lim) (fun x=>by simp[Ty.cells_eq]) (fun x h=>h.2.1))
  Tryz.underlying38 (by kernel_rfl:_=3) Vc (by kernel_rfl:_=48) (ev:=bF) (jc fun v=>AN)).map id (fun l=>by simp[aB,eJ]) (fun l h=>⟨by grind [iJ],h.2⟩)
theorem N0:∀N,Rd enc Tryz.prog W N 49 (fun v:Ty=>v.cells) Ty.Lim
 |0=>.zero
 | N+1=>(eW Tryz.underlying49 BT (aH (jz Tryz.underlying3) rfl (by kernel_rfl:_=1) (aH ((yV (N0 N)).le (acz N)) rfl (by kernel_rfl:_=1) gC))).map (fun x=>Ty.mk x.1 x.2.1)
   (fun x=>by simp[Ty.cells_eq,Ty.kind,Ty.fields]) (fun x h=>Ty.lim_mk h.2.1.1 h.2.1.2)
theorem Df(N:Nat):Rd enc Tryz.prog W N 38 (fun l:List bQ=>[aB l]) (fun l=>l.length<=140737488355328/\∀v∈l,v.2.Lim):=(yV (N0 N)).le (acz N)
theorem Uw(N:Nat):Rd enc Tryz.prog W (N+1) 51 (fun f:Fun=>ab f.av) Fun.Lim:=
 (eW Tryz.underlying51 BT (aH (nG Tryz.underlying9) rfl (by kernel_rfl:_=1) (aH (Dc Tryz.underlying4) rfl (by kernel_rfl:_=1) (aH (Df N) rfl (by kernel_rfl:_=1) (aH (N0 N) rfl (by kernel_rfl:_=2)
  (aH (jz Tryz.underlying3) rfl (by kernel_rfl:_=1) (aH (Dd N) rfl (by kernel_rfl:_=6) gC))))))).map (fun x=>(⟨x.1,x.2.1,x.2.2.1,x.2.2.2.1,x.2.2.2.2.1,x.2.2.2.2.2.1⟩:Fun))
  (fun x=>by simp[Ty.cells_eq,Exp.cells_eq]) (fun x h=>⟨h.2.2.1.1,h.2.2.1.2,h.2.2.2.1,h.2.2.2.2.2.1⟩)
theorem Qz(N:Nat):Rd enc Tryz.prog W N 39 (fun l:List Fun=>[dW l]) (fun l=>l.length<=140737488355328/\∀v∈l,v.Lim):=
 ((iI (Uw N) Tryz.underlying39 (by kernel_rfl:_=12) Vc (by kernel_rfl:_=184) (ev:=Fun.av) (jc fun v=>rfl)).map id (fun l=>by simp[dW]) (fun l h=>⟨by grind [iJ],h.2⟩)).le (acz N)
theorem Ux(N:Nat):Rd enc Tryz.prog W (N+1) 43 (fun m:Mod=>ab m.av) Mod.Lim:=
 (eW Tryz.underlying43 BT (aH (nG Tryz.underlying9) rfl (by kernel_rfl:_=1) (aH (Dg N) rfl (by kernel_rfl:_=1) (aH (Df N) rfl (by kernel_rfl:_=1) (aH (De N) rfl (by kernel_rfl:_=1)
  (aH (Qz N) rfl (by kernel_rfl:_=1) (aH (Dc Tryz.underlying4) rfl (by kernel_rfl:_=1)
  (aH ((eW Tryz.underlying41 BT (aH (Df N) rfl (by kernel_rfl:_=1) (aH (De N) rfl (by kernel_rfl:_=1) (aH (De N) rfl (by kernel_rfl:_=1) gC)))).le (acz N)) rfl (by kernel_rfl:_=3) gC)))))))).map
  (fun x=>(⟨x.1,x.2.1,x.2.2.1,x.2.2.2.1,x.2.2.2.2.1,x.2.2.2.2.2.1,x.2.2.2.2.2.2.1.1,x.2.2.2.2.2.2.1.2.1,x.2.2.2.2.2.2.1.2.2.1⟩:Mod))
  (fun x=>AI) (fun x h=>⟨qr,h.2.2.1.1,h.2.2.1.2,h.2.2.2.1.1,h.2.2.2.1.2,h.2.2.2.2.1.1,h.2.2.2.2.1.2,h.2.2.2.2.2.2.1.1.1,h.2.2.2.2.2.2.1.1.2,h.2.2.2.2.2.2.1.2.1.1,h.2.2.2.2.2.2.1.2.1.2,h.2.2.2.2.2.2.1.2.2.1.1,h.2.2.2.2.2.2.1.2.2.1.2⟩)
theorem QB(N:Nat):Rd enc Tryz.prog W N 22 (fun l:List Mod=>[mods l]) (fun l=>l.length<=140737488355328/\∀v∈l,v.Lim):=
 ((iI (Ux N) Tryz.underlying22 (by kernel_rfl:_=9) Vc (by kernel_rfl:_=192) (ev:=Mod.av) (jc fun v=>rfl)).map id (fun l=>by simp[mods]) (fun l h=>⟨by grind [iJ],h.2⟩)).le (acz N)
theorem Ia:∀N,Rd enc Tryz.prog W N 75 (fun v:Ver=>ab v.av) (fun _=>True)
 |0=>.zero
 |_+1=>(eW Tryz.underlying75 BT (aH (jz Tryz.underlying3) rfl (by kernel_rfl:_=1) (aH (jz Tryz.underlying3) rfl (by kernel_rfl:_=1) (aH (jz Tryz.underlying3) rfl (by kernel_rfl:_=1) gC)))).map (fun x=>(⟨x.1,x.2.1,x.2.2.1⟩:Ver)) (fun x=>rfl) (fun x h=>trivial)
theorem QE(N:Nat):Rd enc Tryz.prog W N 23 (fun l:List Ver=>[mH l]) (fun l=>l.length<=140737488355328):=
 (iI (Ia N) Tryz.underlying23 (by kernel_rfl:_=3) Vc (by kernel_rfl:_=24) (ev:=Ver.av) (jc fun v=>rfl)).map id (fun l=>by simp[mH]) (fun l h=>by grind [iJ])
theorem Uy(N:Nat):Rd enc Tryz.prog W (N+1) 103 (fun v:Rng=>ab v.av) (fun _=>True):=
 (eW Tryz.underlying103 BT (aH (Ia N) rfl (by kernel_rfl:_=3) (aH (Ia N) rfl (by kernel_rfl:_=3) gC))).map (fun x=>(⟨x.1,x.2.1⟩:Rng)) (fun x=>rfl) (fun x h=>trivial)
theorem QC(N:Nat):Rd enc Tryz.prog W N 27 (fun l:List Rng=>[qe l]) (fun l=>l.length<=140737488355328):=
 ((iI (Uy N) Tryz.underlying27 (by kernel_rfl:_=6) Vc (by kernel_rfl:_=48) (ev:=Rng.av) (jc fun v=>rfl)).map id (fun l=>by simp[qe]) (fun l h=>by grind [iJ])).le (acz N)
theorem Qy(N:Nat):Rd enc Tryz.prog W (N+1) 65 (fun c:Ap.Call=>ab c.av) CallLim:=
 (eW Tryz.underlying65 BT (aH (nG Tryz.underlying9) rfl (by kernel_rfl:_=1) (aH (nG Tryz.underlying9) rfl (by kernel_rfl:_=1) (aH (Jw N) rfl (by kernel_rfl:_=1) gC)))).map (fun x=>(⟨x.1,x.2.1,x.2.2.1⟩:Ap.Call)) (fun x=>rfl) (fun x h=>⟨h.2.2.1.1,h.2.2.1.2⟩)
theorem NZ(N:Nat):Rd enc Tryz.prog W N 24 (fun l:List Ap.Call=>[Ap.calls l]) (fun l=>(l.length+1)*56<=140737488355328/\∀c∈l,CallLim c):=
 ((iI (Qy N) Tryz.underlying24 (by kernel_rfl:_=3) Vc (by kernel_rfl:_=56) (ev:=Ap.Call.av) (jc fun v=>rfl)).map id (fun l=>by simp[Ap.calls]) (fun l h=>⟨by grind [iJ],h.2⟩)).le (acz N)
theorem QD(N:Nat):Rd enc Tryz.prog W (N+1) 26 (fun s:Seen=>ab s.av) (fun s=>s.Lim/\(s.calls.length+1)*56<=140737488355328):=
 (eW Tryz.underlying26 BT (aH (QB N) rfl (by kernel_rfl:_=1) (aH (QE N) rfl (by kernel_rfl:_=1) (aH (NZ N) rfl (by kernel_rfl:_=1) (aH (Dc Tryz.underlying4) rfl (by kernel_rfl:_=1) gC))))).map (fun x=>(⟨x.1,x.2.1,x.2.2.1,x.2.2.2.1⟩:Seen)) (fun x=>rfl) (fun x h=>⟨⟨h.1.1,h.1.2,h.2.1,qr,h.2.2.1.2⟩,h.2.2.1.1⟩)
theorem Uv(N:Nat):Rd enc Tryz.prog W (N+1) 33 (fun a:Adv=>ab a.av) Adv.Lim:=
 (eW Tryz.underlying33 BT (aH (jz Tryz.underlying3) rfl (by kernel_rfl:_=1) (aH (nG Tryz.underlying9) rfl (by kernel_rfl:_=1) (aH (QC N) rfl (by kernel_rfl:_=1) (aH (nG Tryz.underlying9) rfl (by kernel_rfl:_=1) (aH (Dd N) rfl (by kernel_rfl:_=6) gC)))))).map (fun x=>(⟨x.1,x.2.1,x.2.2.1,x.2.2.2.1,x.2.2.2.2.1⟩:Adv)) (fun x=>by simp[Exp.cells_eq]) (fun x h=>⟨h.2.2.1,h.2.2.2.2.1⟩)
end
end Go.Proofs.YtkkdcdofponfiaaGreat
namespace Go.Proofs.YtkkdcdofponfiaaGreat
open Go Go.Av Go.Av.Ap
set_option maxRecDepth 100000
def t186(n:Int):callW pg 186 [qi n]=af (.bool false):=by
 rw[C186];simp[S186]
def t178(a b:Int):callW pg 178 [qi a,qi b]=af (.int .i64 (zW a b)):=by
 rw[C178];simp[S178,t186,zW]
def Um:List Int->Int
 |[]=>0
 |x:: l=>if x=0 then Um l else x
def CP(l:List Int)(hb:l.length<=1099511627776):∀(n:Nat)(i:Int),l.length-i.toNat=n->0<=i->i<=l.length->
  ae (L116_0 (callW pg) ae) [qi 0,ints l,qi l.length,qi i]=af (.int .i64 (Um (l.drop i.toNat))):=by
 intro n
 induction n with
 |zero=>
  intro i hn hi hl;rw[FL116_0];simp only[L116_0];have h1:¬(i<(l.length:Int)):=WD
  have h2:l.drop i.toNat=[]:=List.drop_eq_nil_of_le WD;simp[h1,h2,Um]
 |succ n ih=>
  intro i hn hi hl;have h1:i<(l.length:Int):=WD
  have hlt:i.toNat<l.length:=WD
  have h4:=ih (i+1) WD WD WD;rw[show (i+1).toNat=i.toNat+1 by omega]at h4;rw[FL116_0,List.drop_eq_getElem_cons hlt];simp only[L116_0,Um];simp (disch:=omega) [h1,aD,LJ,aaG l i.toNat hlt,h4]
def t116(l:List Int)(hb:l.length<=1099511627776):callW pg 116 [ints l]=af (.int .i64 (Um l)):=by
 rw[C116];simp[S116,CP l hb l.length 0 rfl WD WD]
def FM(a b:Int):zW a b=0↔a=b:=by
 grind [zW]
def Un(v w:Ver):Um [zW v.a w.a,zW v.b w.b,zW v.c w.c]=Mv v w:=by
 unfold Mv;simp only[Um,FM];by_cases h1:v.a=w.a<;>by_cases h2:v.b=w.b<;>simp[h1,h2];intro h;rw[h];exact ((FM _ _).2 rfl).symm
def t139(v w:Ver):callW pg 139 [v.av,w.av]=af (.int .i64 (Mv v w)):=by
 rw[C139,<- Un];have hB:∀x y z:Int,ay T 35 3 [(0,qi x),(1,qi y),(2,qi z)]=some (ints [x,y,z]):=fun x y z=>rfl;simp[S139,t178,hB,t116]
def t91(x:Rng)(v:Ver):callW pg 91 [x.av,v.av]=af (.bool (TO x v)):=by
 rw[C91];simp[S91,t139,TO]
def t90(x:Rng)(v:Ver):callW pg 90 [x.av,.ip (ab v.av)]=af (.bool (TO x v)):=by
 rw[C90];simp[S90,t91,cl,ek]
def P0(f:AV)(q:Rng->Bool)(hf:∀x:Rng,bj (callW pg) f [x.av]=af (.bool (q x)))(l:List Rng)(hb:l.length<=1099511627776):∀(n:Nat)(i:Int),l.length-i.toNat=n->0<=i->i<=l.length->
  ae (L138_0 (callW pg) ae) [qe l,f,qi l.length,qi i]=af (.int .i64 (aS q (l.drop i.toNat) i)):=by
 intro n
 induction n with
 |zero=>
  intro i hn hi hl;rw[FL138_0];simp only[L138_0];have h1:¬(i<(l.length:Int)):=WD
  have h2:l.drop i.toNat=[]:=List.drop_eq_nil_of_le WD;simp[h1,h2,aS]
 |succ n ih=>
  intro i hn hi hl;have h1:i<(l.length:Int):=WD
  have hlt:i.toNat<l.length:=WD
  have h4:=ih (i+1) WD WD WD;rw[show (i+1).toNat=i.toNat+1 by omega]at h4;rw[FL138_0,List.drop_eq_getElem_cons hlt];simp only[L138_0,aS];simp (disch:=omega) [h1,aD,YN,aaG l i.toNat hlt,h4,hf]
theorem Jd{α:Type}(q:α->Bool):∀(l:List α)(i:Int),0<=i->decide (0<=aS q l i)=l.any q
 |[],i,h=>by simp[aS]
 |x:: l,i,h=>by
  have:=Jd q l (i+1) WD
  simp only[aS,List.any_cons]
  grind
def t138(f:AV)(q:Rng->Bool)(hcl:∀g,cl g f=f)(hf:∀x:Rng,bj (callW pg) f [x.av]=af (.bool (q x)))(l:List Rng)(hb:l.length<=1099511627776):callW pg 138 [qe l,f]=af (.int .i64 (aS q l 0)):=by
 rw[C138]
 have:=P0 f q hf l hb l.length 0 rfl WD WD
 simp at this;simp[S138,hcl,this]
def t47(l:List Rng)(v:Ver)(hb:l.length<=1099511627776):callW pg 47 [qe l,v.av]=af (.bool (HC l v)):=by
 have hcl:∀g,cl g (.fn (.func 90) [] [.ip (ab v.av)])= .fn (.func 90) [] [.ip (ab v.av)]:=fun g=>by simp[cl,ek]
 have hf:∀x:Rng,bj (callW pg) (.fn (.func 90) [] [.ip (ab v.av)]) [x.av]=af (.bool (TO x v)):=fun x=>t90 x v;have h1:=t138 _ _ hcl hf l hb;have h2:callW pg 89 [qe l,.fn (.func 90) [] [.ip (ab v.av)]]=af (.bool (HC l v)):=by
  have h3:=Jd (fun x=>TO x v) l 0 WD;have h4:decide (0<=aS (fun x=>TO x v) l 0)=HC l v:=h3;rw[C89,hcl,I0];have h5:S89 (callW pg) ae (qe l) (.fn (.func 90) [] [.ip (ab v.av)])=af (.bool (HC l v)):=by
   unfold S89;rw[h1];simp[h4]
  rw[h5];exact nX _
 rw[C47];simp at h2;simp[S47,h2]
theorem Ma(l:List az)(i k:Nat)(hk:k=i+1)(h:k<l.length):J4 (l.drop i)=(aK (l[i]'(WD)) l[k]&&J4 (l.drop k)):=by
 subst hk;have e1:l.drop i=l[i]:: l.drop (i+1):=List.drop_eq_getElem_cons WD;have e2:l.drop (i+1)=l[i+1]:: l.drop (i+2):=List.drop_eq_getElem_cons h;rw[e1,e2];rfl
def P1(call)(l:List az)(hb:l.length<=4611686018427387904):∀(n:Nat)(i:Int),l.length-i.toNat=n->1<=i->ae (L140_0 call ae) [strs l,qi i]=af (.bool (J4 (l.drop (i.toNat-1)))):=by
 intro n
 induction n with
 | zero=>
  intro i hn hi;rw[FL140_0];simp only[L140_0];have h1:¬(i<(l.length:Int)):=WD
  have h2:J4 (l.drop (i.toNat-1))=true:=by
   have:(l.drop (i.toNat-1)).length<=1:=by simp;omega
   match hq:l.drop (i.toNat-1),this with
   |[],_=>rfl
   |[x],_=>rfl
   |x:: y:: r,h=>simp at h
  simp[h1,h2]
 |succ n ih=>
  intro i hn hi;have h1:i<(l.length:Int):=WD
  rw[FL140_0];simp only[L140_0];simp (disch:=omega) [h1,aD,wH]
  grind [Ma]
def t140(l:List az)(hb:l.length<=4611686018427387904):callW pg 140 [strs l]=af (.bool (J4 l)):=by
 rw[C140];simp[S140,P1 (callW pg) l hb (l.length-1) 1 rfl WD]
def Uh(f:AV)(F:Val->Bool)(l:List Val)(hb:l.length<=4611686018427387904)(hf:∀x∈l,bj (callW pg) f [Val.av x]=af (.bool (F x))):∀(n:Nat)(i:Int),l.length-i.toNat=n->0<=i->i<=l.length->
  ae (L99_0 (callW pg) ae) [vals l,f,qi l.length,qi i]=af (.int .i64 (aS F (l.drop i.toNat) i)):=by
 intro n
 induction n with
 |zero=>
  intro i hn hi hl;rw[FL99_0];simp only[L99_0];have h1:¬(i<(l.length:Int)):=WD
  have h2:l.drop i.toNat=[]:=List.drop_eq_nil_of_le WD;simp[h1,h2,aS]
 |succ n ih=>
  intro i hn hi hl;have h1:i<(l.length:Int):=WD
  have hlt:i.toNat<l.length:=WD
  have h2:aS F (l.drop i.toNat) i=if F l[i.toNat]=true then i else aS F (l.drop (i.toNat+1)) (i+1):=by rw[List.drop_eq_getElem_cons hlt];rfl
  have h3:=hf l[i.toNat] (List.getElem_mem hlt);have h4:=ih (i+1) WD WD WD;rw[show (i+1).toNat=i.toNat+1 by omega]at h4;rw[FL99_0];simp only[L99_0];simp (disch:=omega) [h1,aD,DT,h3,h2];simp_all
def t99(f:AV)(F:Val->Bool)(l:List Val)(hb:l.length<=4611686018427387904)(hc:∀g,cl g f=f)(hf:∀x∈l,bj (callW pg) f [Val.av x]=af (.bool (F x))):callW pg 99 [vals l,f]=af (.int .i64 (aS F l 0)):=by
 rw[C99];simp[S99,hc,Uh f F l hb hf l.length 0 rfl WD WD]
def t54(f:AV)(F:Val->Bool)(l:List Val)(hb:l.length<=4611686018427387904)(hc:∀g,cl g f=f)(hf:∀x∈l,bj (callW pg) f [Val.av x]=af (.bool (F x))):callW pg 54 [vals l,f]=af (.bool (l.any F)):=by
 rw[C54];simp[S54,hc,t99 f F l hb hc hf,nW]
theorem t100:∀(d:Nat),d<=4->∀(v:Val),v.sz<=4611686018427387904->callW pg 100 [v.av,qi d]=af (.bool (cb d v))
 |0,_,v,_=>by
  rw[C100];simp[S100,cb]
 | d+1,hd,v,hv=>by
  have ih:=t100 d WD;have h1:=t140 v.names (abK v.sz_names hv);have hf:∀x∈v.values,bj (callW pg) (.fn (.func 141) [] [.ip [qi ((d:Int)+1)]]) [x.av]=af (.bool !(cb d x)):=by
   intro x hx;have hsz:=aam hx
   have:=ih x WD
   show callW pg 141 [x.av,.ip [qi ((d:Int)+1)]]=_;rw[C141];simp (disch:=omega) [S141,cl,ek,aD,this,show (d:Int)+1-1=d by omega]
  have h2:=t54 (.fn (.func 141) [] [.ip [qi ((d:Int)+1)]]) (fun x=>!(cb d x)) v.values (by have:=v.sz_len;omega) (fun g=>rfl) hf;have h0:¬((d:Int)+1=0):=WD
  rw[C100];simp[S100,cb,h0,h1,h2];have hall:(!v.values.any fun x=>!cb d x)=v.values.all (cb d):=by simp[adp]
  rw[hall];split
  ·rfl
  ·congr 2
   grind
mutual
def Yf:Val->Val->Bool
 |.mk k n ns vs,.mk k' n' ns' vs'=>k== k'&&n== n'&&ns== ns'&&Oc vs vs'
def Oc:List Val->List Val->Bool
 |[],[]=>true
 |v:: vs,w:: ws=>Yf v w&&Oc vs ws
 |_,_=>false
end
def t56(v:Val)(hv:v.sz<=4611686018427387904):callW pg 56 [v.av]=af (.bool (cb 4 v)):=by
 rw[C56]
 have:=t100 4 WD v hv
 simp at this;simp[S56,this]
def Ub(f:AV)(F:Mod->Bool)(l:List Mod)(hb:l.length<=4611686018427387904)(hf:∀x∈l,bj (callW pg) f [Mod.av x]=af (.bool (F x))):∀(n:Nat)(i:Int),l.length-i.toNat=n->0<=i->i<=l.length->
  ae (L45_0 (callW pg) ae) [mods l,f,qi l.length,qi i]=af (.int .i64 (aS F (l.drop i.toNat) i)):=by
 intro n
 induction n with
 |zero=>
  intro i hn hi hl;rw[FL45_0];simp only[L45_0];have h1:¬(i<(l.length:Int)):=WD
  have h2:l.drop i.toNat=[]:=List.drop_eq_nil_of_le WD;simp[h1,h2,aS]
 |succ n ih=>
  intro i hn hi hl;have h1:i<(l.length:Int):=WD
  have hlt:i.toNat<l.length:=WD
  have h2:aS F (l.drop i.toNat) i=if F l[i.toNat]=true then i else aS F (l.drop (i.toNat+1)) (i+1):=by rw[List.drop_eq_getElem_cons hlt];rfl
  have h3:=hf l[i.toNat] (List.getElem_mem hlt);have h4:=ih (i+1) WD WD WD;rw[show (i+1).toNat=i.toNat+1 by omega]at h4;rw[FL45_0];simp only[L45_0];simp (disch:=omega) [h1,aD,lT,h3,h2];simp_all
def t45(f:AV)(F:Mod->Bool)(l:List Mod)(hb:l.length<=4611686018427387904)(hc:∀g,cl g f=f)(hf:∀x∈l,bj (callW pg) f [Mod.av x]=af (.bool (F x))):callW pg 45 [mods l,f]=af (.int .i64 (aS F l 0)):=by
 rw[C45];simp[S45,hc,Ub f F l hb hf l.length 0 rfl WD WD]
def t92(f:AV)(F:Mod->Bool)(l:List Mod)(hb:l.length<=4611686018427387904)(hc:∀g,cl g f=f)(hf:∀x∈l,bj (callW pg) f [Mod.av x]=af (.bool (F x))):callW pg 92 [mods l,f]=af (.bool (l.any F)):=by
 rw[C92];simp[S92,hc,t45 f F l hb hc hf,nW]
def Uc(f:AV)(F:Fun->Bool)(l:List Fun)(hb:l.length<=4611686018427387904)(hf:∀x∈l,bj (callW pg) f [Fun.av x]=af (.bool (F x))):∀(n:Nat)(i:Int),l.length-i.toNat=n->0<=i->i<=l.length->
  ae (L48_0 (callW pg) ae) [dW l,f,qi l.length,qi i]=af (.int .i64 (aS F (l.drop i.toNat) i)):=by
 intro n
 induction n with
 |zero=>
  intro i hn hi hl;rw[FL48_0];simp only[L48_0];have h1:¬(i<(l.length:Int)):=WD
  have h2:l.drop i.toNat=[]:=List.drop_eq_nil_of_le WD;simp[h1,h2,aS]
 |succ n ih=>
  intro i hn hi hl;have h1:i<(l.length:Int):=WD
  have hlt:i.toNat<l.length:=WD
  have h2:aS F (l.drop i.toNat) i=if F l[i.toNat]=true then i else aS F (l.drop (i.toNat+1)) (i+1):=by rw[List.drop_eq_getElem_cons hlt];rfl
  have h3:=hf l[i.toNat] (List.getElem_mem hlt);have h4:=ih (i+1) WD WD WD;rw[show (i+1).toNat=i.toNat+1 by omega]at h4;rw[FL48_0];simp only[L48_0];simp (disch:=omega) [h1,aD,vX,h3,h2];simp_all
def t48(f:AV)(F:Fun->Bool)(l:List Fun)(hb:l.length<=4611686018427387904)(hc:∀g,cl g f=f)(hf:∀x∈l,bj (callW pg) f [Fun.av x]=af (.bool (F x))):callW pg 48 [dW l,f]=af (.int .i64 (aS F l 0)):=by
 rw[C48];simp[S48,hc,Uc f F l hb hf l.length 0 rfl WD WD]
def PZ(f:AV)(F:bQ->Bool)(l:List bQ)(hb:l.length<=4611686018427387904)(hf:∀x∈l,bj (callW pg) f [bF x]=af (.bool (F x))):∀(n:Nat)(i:Int),l.length-i.toNat=n->0<=i->i<=l.length->
  ae (L127_0 (callW pg) ae) [aB l,f,qi l.length,qi i]=af (.int .i64 (aS F (l.drop i.toNat) i)):=by
 intro n
 induction n with
 |zero=>
  intro i hn hi hl;rw[FL127_0];simp only[L127_0];have h1:¬(i<(l.length:Int)):=WD
  have h2:l.drop i.toNat=[]:=List.drop_eq_nil_of_le WD;simp[h1,h2,aS]
 |succ n ih=>
  intro i hn hi hl;have h1:i<(l.length:Int):=WD
  have hlt:i.toNat<l.length:=WD
  have h2:aS F (l.drop i.toNat) i=if F l[i.toNat]=true then i else aS F (l.drop (i.toNat+1)) (i+1):=by rw[List.drop_eq_getElem_cons hlt];rfl
  have h3:=hf l[i.toNat] (List.getElem_mem hlt);have h4:=ih (i+1) WD WD WD;rw[show (i+1).toNat=i.toNat+1 by omega]at h4;rw[FL127_0];simp only[L127_0];simp (disch:=omega) [h1,aD,rn,h3,h2];simp_all
def t127(f:AV)(F:bQ->Bool)(l:List bQ)(hb:l.length<=4611686018427387904)(hc:∀g,cl g f=f)(hf:∀x∈l,bj (callW pg) f [bF x]=af (.bool (F x))):callW pg 127 [aB l,f]=af (.int .i64 (aS F l 0)):=by
 rw[C127];simp[S127,hc,PZ f F l hb hf l.length 0 rfl WD WD]
def t97(m:Mod)(s:az):callW pg 97 [m.av,.ip [.str s]]=af (.bool (m.name== s)):=by
 rw[C97];simp[S97,cl,ek]
def t98(f:Fun)(s:az):callW pg 98 [f.av,.ip [.str s]]=af (.bool (f.name== s)):=by
 rw[C98];simp[S98,cl,ek]
def t93(m w:Mod):callW pg 93 [m.av,.ip (ab w.av)]=af (.bool (m.name== w.name)):=by
 rw[C93];simp[S93,cl,ek]
def aaa(p:List Mod)(hp:p.length<=4611686018427387904)(s:az):callW pg 45 [mods p,.fn (.func 97) [] [.ip [.str s]]]=af (.int .i64 (modAt p s)):=
 t45 _ _ p hp (fun g=>rfl) (fun m _=>t97 m s)
def aab(p:List Fun)(hp:p.length<=4611686018427387904)(s:az):callW pg 48 [dW p,.fn (.func 98) [] [.ip [.str s]]]=af (.int .i64 (jt p s)):=
 t48 _ _ p hp (fun g=>rfl) (fun m _=>t98 m s)
def t105(n:Int):callW pg 105 [qi n]=af (Val.mk 0 n [] []).av:=by
 rw[C105];rfl
def t106(b:Bool):callW pg 106 [.bool b]=af (iz b).av:=by
 rw[C106];cases b<;>rfl
def t102(b:Bool)(n:Int):callW pg 102 [.bool b,qi n]=if b=true then af (.tup [])else lg (.iface 56 (qi n)):=by
 rw[C102];cases b<;>rfl
def Tk(l:List az):ej T 28 (strs l) none (some (.int .i64 l.length)) (some (.int .i64 l.length))=some (strs l):=by
 have:=vP (T:=T) (t:=28) (e:=9) rfl rfl rfl (l.map AV.str)
 simpa [strs]using this
def Tj(l:List Val):ej T 34 (vals l) none (some (.int .i64 l.length)) (some (.int .i64 l.length))=some (vals l):=by
 have:=vP (T:=T) (t:=34) (e:=47) rfl rfl rfl (gI l)
 simpa [vals,fG]using this
def t142(l:List az):callW pg 142 [strs l]=af (strs l):=by
 rw[C142];simp[S142,Tk,bb (a:=strs l) fun g=>oI g l]
def t143(l:List Val):callW pg 143 [vals l]=af (vals l):=by
 rw[C143];simp[S143,Tj]
def bD(o:Int)(ns:List az)(vs:List Val):AV:=.agg [qi o,strs ns,vals vs]
@[simp] theorem ga(o:Int)(ns:List az)(vs:List Val):ab (bD o ns vs)=[.int .i64 o,strs ns,vals vs]:=rfl
theorem bO(o:Int)(ns:List az)(vs:List Val):AV.agg [qi o,strs ns,vals vs]=bD o ns vs:=rfl
def Ek(g)(o:Int)(ns:List az)(vs:List Val):cl g (bD o ns vs)=bD o ns vs:=by
 simp_all[bD,cl,ek]
def rX(o:Int)(ns:List az)(vs:List Val):cq 3 (bD o ns vs)=true:=by simp_all[cq,aG,strs,vals,bD,df]
def HG(o:Int)(ns:List az)(vs:List Val):aI (af (bD o ns vs))=af (bD o ns vs):=bb fun g=>Ek g o ns vs
set_option maxHeartbeats 1000000 in
def t104(n:Int):callW pg 104 [qi n]=af (.int .i64 (aE n)):=by
 rw[C104];unfold aE;simp only[S104,K104_0,K104_1,K104_2,K104_3,cl,yj,ky,ai,am,ax,aF,aa9];by_cases h0:n=0
 ·simp[h0]
 by_cases h1:n=1
 ·simp[h1]
 by_cases h2:n=2
 ·simp[h2]
 by_cases h17:n=17
 ·simp[h17]
 by_cases h10:n=10
 ·simp[h10]
 by_cases h14:n=14
 ·simp[h14]
 by_cases h16:n=16
 ·simp[h16]
 by_cases h18:n=18
 ·simp[h18]
 by_cases h3:n=3
 ·simp[h3]
 by_cases h4:n=4
 ·simp[h4]
 by_cases h5:n=5
 ·simp[h5]
 by_cases h6:n=6
 ·simp[h6]
 by_cases h7:n=7
 ·simp[h7]
 by_cases h8:n=8
 ·simp[h8]
 by_cases h9:n=9
 ·simp[h9]
 by_cases h12:n=12
 ·simp[h12]
 by_cases h11:n=11
 ·simp[h11]
 by_cases h13:n=13
 all_goals simp_all
theorem t103(o:Int)(ns:List az)(vs:List Val)(s:az)(v:Val)(h1:ns.length<=1099511627776)(h2:vs.length<=1099511627776):
  callW pg 103 [bD o ns vs,.str s,v.av]=af (bD o (ns++[s]) (vs++[v])):=by
 have hb1:ay T 28 1 [(0,.str s)]=some (strs [s]):=rfl;have hb2:ay T 34 1 [(0,v.av)]=some (vals [v]):=by rw[v.av_eq];simp[vals,gI,v.av_eq];rfl
 have ha1:cC T 28 (strs ns) (strs [s])=some (strs (ns++[s])):=OQ Bk;have ha2:cC T 34 (vals vs) (vals [v])=some (vals (vs++[v])):=OR Bk;have hb3:bS T false 146 [(0,.int .i64 o),(1,strs (ns++[s])),(2,vals (vs++[v]))]=some (bD o (ns++[s]) (vs++[v])):=rfl;simp_all[C103,Ek,S103,t142,t143,bO,rX,HG]
def sI(e:Int):AV:=.iface 56 (qi e)
def de(b:Bool)(e:Int)(x:M AV):M AV:=if b=true then x else lg (sI e)
def bi(b:Bool)(e:Int)(f:AV->M AV):ah (callW pg 102 [.bool b,qi e]) f=de b e (f (.tup [])):=by
 rw[t102];unfold de;cases b<;>rfl
def iy:X Val->M AV:=fun x=>match x ⟨0,0,[],[],[],[]⟩with
 |.ok v _=>af v.av
 |.er e _=>lg (sI e)
def t107(op:Int)(a b:Val)(h:op=3\/op=4\/op=5\/op=6\/op=7):callW pg 107 [qi op,a.av,b.av]=iy (nr op a b):=by
 rw[C107];unfold nr;have hn:=t105;have ht:=t106;simp only[S107,ky,ai,am,jV];by_cases h7:op=7
 ·by_cases hk:a.kind=b.kind
  ·by_cases h2:a.kind=2
   ·simp_all[bi,de,iy,X.er]
   ·have h2':¬b.kind=2:=WD
    simp[h7,hk,h2',bi,de,iy,X.ok,ht]
  simp_all[bi,de,iy,X.er]
 ·by_cases ha:a.kind=0
  ·by_cases hb:b.kind=0
   ·simp only[h7,ha,hb,abU,adf,aaV,aaR,aa9,FA47_0,FA47_1,aaZ,LD3,ai,ky,cD,ar,qD,ax,bi,de,acC,aa5,am,gb,Cg,O2,bc,hn,ht];by_cases h3:op=3
    ·simp[h3,iy,X.ok,pX,wr];rfl
    by_cases h4:op=4
    ·simp[h4,iy,X.ok,pX,wr];rfl
    by_cases h5:op=5
    ·simp[h5,iy,X.ok,pX,wr];rfl
    simp[h3,h4,h5,iy,X.ok]
   simp_all[bi,de,iy,X.er]
  simp_all[bi,de,iy,X.er]
def t110(l:List az)(s:az)(hb:l.length<=1099511627776):callW pg 110 [strs l,.str s]=af (.int .i64 (aS (fun x=>s== x) l 0)):=by
 have hl:∀(n:Nat)(i:Int),l.length-i.toNat=n->0<=i->i<=l.length->ae (L110_0 (callW pg) ae) [strs l,.str s,qi l.length,qi i]=af (.int .i64 (aS (fun x=>s== x) (l.drop i.toNat) i)):=by
  intro n
  induction n with
  |zero=>
   intro i hn hi hl;rw[FL110_0];simp only[L110_0];have h1:¬(i<(l.length:Int)):=WD
   have h2:l.drop i.toNat=[]:=List.drop_eq_nil_of_le WD;simp[h1,h2,aS]
  |succ n ih=>
   intro i hn hi hl;have h1:i<(l.length:Int):=WD
   have hlt:i.toNat<l.length:=WD
   have h2:aS (fun x=>s== x) (l.drop i.toNat) i=if(s== l[i.toNat])=true then i else aS (fun x=>s== x) (l.drop (i.toNat+1)) (i+1):=by rw[List.drop_eq_getElem_cons hlt];rfl
   have h4:=ih (i+1) WD WD WD;rw[show (i+1).toNat=i.toNat+1 by omega]at h4;rw[FL110_0];simp only[L110_0];simp (disch:=omega) [h1,aD,wH,h2];simp_all
 rw[C110];simp[S110,cl,hl l.length 0 rfl WD WD]
def t145:∀(n:Nat)(v:Val),v.sz<=n->v.sz<=1099511627776->callW pg 145 [v.av]=af (.int .i64 (iw v:Nat)):=by
 intro n
 induction n with
 |zero=>intro v h;have:=v.sz_pos;omega
 | succ n ih=>
  intro v hn hv;have hlen:=v.sz_len;have hlv:∀(l:List Val),ba l<=1099511627776->gK l<=1099511627776:=by
   intro l
   induction l with
   |nil=>intro _;simp[gK]
   | cons x l ih2=>
    intro h;simp only[ba]at h
    have:=ih2 WD
    have hx:∀(k:Nat)(y:Val),y.sz<=k->iw y<=y.sz:=by
     intro k
     induction k with
     |zero=>intro y hy;have:=y.sz_pos;omega
     |succ k ihk=>
      intro y hy;rw[nZ];have h1:=y.sz_values;have h2:gK y.values<=ba y.values:=(ml _ _).2 fun z hz=>abK (ihk z (by have:=aam hz;omega)) (pf hz);omega
    simp only[gK]
    grind
  have hl:∀(B A:List Val)(c:Nat),A++B=v.values->c<=1099511627776->ae (L145_0 (callW pg) ae) [qi (c:Nat),vals v.values,qi v.values.length,qi A.length]=af (.int .i64 ((max c (gK B)+1:Nat))):=by
   intro B
   induction B with
   |nil=>
    intro A c e hc;simp only[abr]at e;subst e;rw[FL145_0];simp (disch:=omega) [L145_0,gK,aD]
   | cons x B ih2=>
    intro A c e hc;have hll:A.length+(B.length+1)=v.values.length:=by rw[<- e];simp
    have h1:(A.length:Int)<(v.values.length:Int):=WD
    have hx:v.values[A.length]! = x:=by
     rw[<- e,aaG _ _ AI];simp
    have hm:x∈v.values:=by rw[<- e];simp
    have hx':v.values[A.length]'(WD)=x:=by rw[<- hx,aaG]
    have h3:=ih x (by have:=aam hm;omega) (by have:=aam hm;omega);have hxb:iw x<=1099511627776:=abK ((ml v.values _).1 (hlv v.values (by have:=v.sz_values;omega)) x hm) (aaI _);have h4:=ih2 (A++[x]) (max c (iw x)) qr WD;rw[FL145_0];have hmx:(max (c:Int) (iw x:Int))=((max c (iw x):Nat):Int):=WD
    simp (disch:=omega) [L145_0,h1,aD,DT,hx',h3,hmx]at h4 |-;rw[h4];simp only[gK]
  rw[C145]
  have:=hl v.values [] 0 rfl WD
  simp_all[S145,nZ]
def t146(f:bQ)(e:Exp):callW pg 146 [bF f,.ip (ab e.av)]=af (.bool (f.1== e.s)):=by
 rw[C146];simp[S146,cl,ek]
def Yv(l:List bQ)(hl:l.length<=1099511627776)(e:Exp):callW pg 127 [aB l,.fn (.func 146) [] [.ip (ab e.av)]]=af (.int .i64 (mh l e.s)):=
 t127 _ _ l WD (fun g=>by simp[cl,ek]) (fun f _=>t146 f e)
def Db(t:Bool)(p:List Mod):AV:=if t=true then(match p with|[]=>.hn|_=>mods p)else mods p
variable {p:List Mod}
def wy{t:Bool}(h:p≠[]):Db t p=mods p:=by
 cases t with
 |false=>rfl
 |true=>cases p with
  |nil=>grind
  |cons _ _=>rfl
def zw(t:Bool)(w:List Int):AV:=if t=true then .hn else ints w
def rowP(p:List Mod)(t:Bool)(m:Ms)(dv cv sv:AV):List AV:=[Db t p,zw t m.world,qi m.fuel,qi m.frames,qi 0,qi 0,qi 0,.hn,.hn,dv,cv,sv]
abbrev gF(p:List Mod)(nm:SNm):=Rep (rowP p nm.told) nm
structure LimP (p:List Mod):Prop where
 len:p.length<=1099511627776
 funcs:∀m∈p,m.funcs.length<=1099511627776/\m.vars.length<=1099511627776
def LimP.funcsAt(L:LimP p)(i:Nat):(p[i]?.getD default).funcs.length<=1099511627776/\(p[i]?.getD default).vars.length<=1099511627776:=by
 cases h:p[i]? with
 |none=>exact⟨aa1 _,aa1 _⟩
 |some m=>exact L.funcs m (abg h)
theorem pS{α:Type}(F:α->Bool):(l:List α)->(i:Int)->aS F l i= -1\/(i<=aS F l i/\aS F l i<i+l.length)
 |[],i=>.inl rfl
 | x:: l,i=>by
  simp only[aS];split
  ·grind
  ·rcases pS F l (i+1)with h|h
   all_goals grind
variable {h:Hp}{nm:SNm}
def t52{p:List Mod}{nm:SNm}{m:Ms}{h:Hp}(R:gF p nm m h)(L:LimP p)(s:az):callW pg 52 [.hp 0 0,.str s] h= .ok (qi (modAt p s)) h:=by
 obtain⟨tag,dv,cv,sv,R⟩:=R;have h0:bC T 22 (.hp 0 (0+0)) h= .ok (Db nm.told p) h:=dX rfl rfl R.r0 rfl;have hpv:∀f:AV,callW pg 45 [Db nm.told p,f]=callW pg 45 [mods p,f]:=fun f=>by
  by_cases hp:p=[]
  ·subst hp;cases nm.told with
   |false=>rfl
   |true=>rw[C45,C45];rfl
  ·rw[wy hp]
 rw[C52];simp only[S52,fA,ai,FH135_0];rw[bM h0,hpv]
 have:=aaa p (by have:=L.len;omega) s
 simp only[oD,this,ar];rfl
def xT:Option Fun->AV
 |some f=>.tup [f.av,.bool true]
 |none=>.tup [Fun.av default,.bool false]
theorem t53{p:List Mod}{nm:SNm}{m:Ms}{h:Hp}(R:gF p nm m h)(L:LimP p)(a:Int)(ha:a<p.length)(s:az):callW pg 53 [.hp 0 0,qi a,.str s] h= .ok (xT (eu p a s)) h:=by
 obtain⟨tag,dv,cv,sv,R⟩:=R;have h0:p≠[]->bC T 22 (.hp 0 (0+0)) h= .ok (mods p) h:=fun hp=>dX rfl rfl R.r0 (by rw[<- wy (t:=nm.told) hp];rfl);have hz:bS T false 51 []=some (Fun.av default):=rfl;have hzz:∀f:Fun,AV.agg [aa (ab f.av) 0,aa (ab f.av) 1,aa (ab f.av) 2,aa (ab f.av) 3,aa (ab f.av) 4,aa (ab f.av) 5,aa (ab f.av) 6,aa (ab f.av) 7,aa (ab f.av) 8,aa (ab f.av) 9,aa (ab f.av) 10,aa (ab f.av) 11]=f.av:=fun f=>AI
 have hcf:∀f:Fun,aC 12 [] f.av=af (.agg (ab f.av)):=fun f=>bU (yG f);have hac:∀f:Fun,ab (.agg (ab f.av))=ab f.av:=fun _=>rfl;rw[C53];unfold eu;simp only[S53,bc,ai,am];by_cases h1:a<0
 ·simp only[h1,abj,aaV,hz,ai,hcf,ar,hac,hzz];rfl
 ·simp only[h1,abO,aaK,aaR,fA,ai,FH135_0];rw[bM (h0 (fun e=>qr))];have hi:=lT (l:=p) (n:=a) WD ha;have hlt:a.toNat<p.length:=WD
  have e1:p[a.toNat]! = p[a.toNat]?.getD default:=by rw[aaG p a.toNat hlt,aaE hlt];rfl
  have hlen:=(L.funcsAt a.toNat).1;have hx:=aab (p[a.toNat]?.getD default).funcs WD s;generalize hm:p[a.toNat]?.getD default=md at hx hlen e1;rw[hi,e1];simp only[ai,bN,FA43_4,aa5,aaZ,LD39,oD,hx,ar,bc,am];by_cases h2:jt md.funcs s<0
  ·simp only[h2,abj,aaV,hz,ai,hcf,ar,hac,hzz];rfl
  ·simp only[h2,abO,aaK,aaR];rcases pS (fun f=>f.name== s) md.funcs 0 with h3|h3
   ·grind [jt]
   ·have h4:jt md.funcs s<(md.funcs.length:Int):=by unfold jt;omega
    have h5:(jt md.funcs s).toNat<md.funcs.length:=WD
    rw[vX WD h4,aaG md.funcs _ h5,aaE h5];have hld:aO T 51 (.ip (ab (md.funcs[(jt md.funcs s).toNat]).av))=some (md.funcs[(jt md.funcs s).toNat]).av:=AI
    simp only[ai,hld,hcf,ar,hac,hzz];rfl
variable {α:Type}
def ly(p:List Mod)(nm:SNm)(enc:α->AV)(r:Rs α)(c:R AV):Prop:=match r with
 |.ok v s=>∃h',c= .ok (enc v) h'/\gF p nm s h'
 |.er e s=>∃h',c= .pan (sI e) h'/\gF p nm s h'
def cG{β:Type}{enc:α->AV}{enc':β->AV}{x:X α}{f:α->X β}{c:M AV}{d:AV->M AV}{m:Ms}(H:ly p nm enc (x m) (c h))(K:∀a s h',x m= .ok a s->gF p nm s h'->ly p nm enc' (f a s) (d (enc a) h')):ly p nm enc' (x.bind f m) (ah c d h):=by
 unfold X.bind;cases hr:x m with
 |ok a s=>
  rw[hr]at H;obtain⟨h',h1,h2⟩:=H;rw[bM h1]
  grind
 |er e s=>
  rw[hr]at H;obtain⟨h',h1,h2⟩:=H;exact⟨h',IQ h1,h2⟩
theorem fm{enc:α->AV}{a:α}{m:Ms}(R:gF p nm m h):ly p nm enc (X.ok a m) (af (enc a) h):=⟨h,rfl,R⟩
theorem gW{enc:α->AV}{e:Int}{m:Ms}(R:gF p nm m h):ly p nm enc (X.er e m) (lg (sI e) h):=⟨h,rfl,R⟩
def Rn(v:Val):ah (aC 4 [] v.av) (fun w=>af (AV.agg [aa (ab w) 0,aa (ab w) 1,aa (ab w) 2,aa (ab w) 3]))=af v.av:=AI
def lp(m:Ms):Ms:={ m with fuel:=m.fuel-1 }
def N3{tag:Nat->Nat}{dv cv sv:AV}{m:Ms}(R:RepT (rowP p nm.told) nm tag dv cv sv m h):RepT (rowP p nm.told) nm tag dv cv sv (lp m) (h.set 0 (rowP p nm.told (lp m) dv cv sv)):=R.set0 rfl rfl rfl id
def step0{m:Ms}(R:gF p nm m h):∃h1,gF p nm (lp m) h1/\
  (∀f:AV->M AV,ah (bC T 3 (.hp 0 2)) f h=f (qi m.fuel) h)/\(∀f:AV->M AV,ah (cp T 3 (.hp 0 2) (qi (m.fuel-1))) f h=f (.tup []) h1):=by
 obtain⟨tag,dv,cv,sv,R⟩:=R;refine⟨_,⟨tag,dv,cv,sv,N3 R⟩,fun f=>bM (dX rfl rfl R.r0 rfl),fun f=>bM (gD rfl R.r0 rfl (show 2+1<=12 by decide) Vc)⟩
def MJ{m:Ms}(R:gF p nm m h)(hf:¬0<m.fuel)(sc:AV)(e:Exp):callW pg 63 [.hp 0 0,sc,e.av] h= .pan (sI 16) h:=by
 obtain⟨tag,dv,cv,sv,R⟩:=R;have h0:∀f:AV->M AV,ah (bC T 3 (.hp 0 2)) f h=f (qi m.fuel) h:=fun f=>bM (dX rfl rfl R.r0 rfl);rw[C63];simp[S63,h0,hf,bi,de,lg]
def uO(e:Exp):Prop:=¬aE e.op= -2/\(aE e.op= -1\/aE e.op=e.args.length)
def Tv{p:List Mod}{nm:SNm}{m:Ms}{h:Hp}(R:gF p nm m h)(G:GoodM p m)(hf:0<m.fuel)(sc:AV)(e:Exp)(hc:¬uO e):∃h1,gF p nm (lp m) h1/\callW pg 63 [.hp 0 0,sc,e.av] h= .pan (sI 13) h1:=by
 obtain⟨h1,R1,hl,hs⟩:=step0 R;refine⟨h1,R1,?_⟩;have hw:IntKind.i64.wrap (m.fuel-1)=m.fuel-1:=aD WD (by have:=G.bud;simp only[mu]at this;omega);unfold uO at hc;rw[C63];simp[S63,hl,hs,hf,bi,de,hw,t104,hc];rfl
mutual
def aT:Exp->Prop
 |.mk _ _ _ _ ns es=>ns.length<=8796093022208/\es.length<=274877906944/\qq es
def qq:List Exp->Prop
 |[]=>True
 |e:: es=>aT e/\qq es
end
theorem vg:{l:List Exp} ->qq l->∀e∈l,aT e
 |[],_,_,h=>by cases h
 |x:: l,H,e,h=>by
  simp only[qq]at H;rcases aaT.1 h with rfl|h
  ·exact H.1
  ·exact vg H.2 e h
def bA{e x:Exp}(H:aT e)(h:x∈e.args):aT x:=by
 obtain⟨o,n,s,m,ns,es⟩:=e;simp only[aT]at H;exact vg H.2.2 x h
def oM{e:Exp}(H:aT e):e.names.length<=8796093022208/\e.args.length<=274877906944:=by
 obtain⟨o,n,s,m,ns,es⟩:=e;simp only[aT]at H;exact⟨H.1,H.2.1⟩
structure LimB (p:List Mod):Prop where
 lim:LimP p
 body:∀m∈p,∀f∈m.funcs,aT f.body/\f.params.length<=274877906944
structure Sc (p:List Mod) (own:Int) (ns:List az) (vs:List Val) (m:Ms):Prop where
 own:own<p.length
 right:py ns vs
 len:(ns.length:Int)+m.fuel<=549755813888
def vW(p:List Mod)(nm:SNm)(n:Nat):Prop:=∀own ns vs e m h,gF p nm m h->GoodM p m->m.fuel<=n->Sc p own ns vs m->aT e->ly p nm Val.av (aR p n own ns vs e m) (callW pg 63 [.hp 0 0,bD own ns vs,e.av] h)
def Rp(p:List Mod)(nm:SNm)(n:Nat):Prop:=∀own ns vs e m h,gF p nm m h->GoodM p m->m.fuel<=n->Sc p own ns vs m->aT e->ly p nm AV.bool (boolX (aR p n own ns vs e) m) (callW pg 108 [.hp 0 0,bD own ns vs,e.av] h)
def QY(p:List Mod)(nm:SNm)(n:Nat):Prop:=∀own ns vs e m h,gF p nm m h->GoodM p m->m.fuel<=n->Sc p own ns vs m->aT e->ly p nm Val.av (im (aR p n own ns vs) e m) (callW pg 109 [.hp 0 0,bD own ns vs,e.av] h)
def LG(p:List Mod)(nm:SNm)(n:Nat):Prop:=∀own ns vs e m h,gF p nm m h->GoodM p m->mu m<1000000->m.fuel<=n->Sc p own ns vs m->aT e->ly p nm Val.av (nL p (aR p n) own ns vs e m) (callW pg 111 [.hp 0 0,bD own ns vs,e.av] h)
def zv(p:List Mod)(r:Exp->X Val)(own:Int)(e:Exp):X Val:=if e.op=16 then tW (r e.args[0]!) e else tP p r own e
def IG(p:List Mod)(nm:SNm)(n:Nat):Prop:=∀own ns vs e m h,e.op=16\/e.op=17\/e.op=18->uO e->gF p nm m h->GoodM p m->mu m<1000000->m.fuel<=n->Sc p own ns vs m->aT e->ly p nm Val.av (zv p (aR p n own ns vs) own e m) (callW pg 112 [.hp 0 0,bD own ns vs,e.av] h)
def Sc.less{own:Int}{ns:List az}{vs:List Val}{m s:Ms}(H:Sc p own ns vs m)(h:s.fuel<=m.fuel):Sc p own ns vs s:=⟨H.own,H.right,by have:=H.len;omega⟩
theorem t108{n:Nat}(IH:vW p nm n):Rp p nm n:=by
 intro own ns vs e m h R G hn hs he;unfold boolX;have hsc:aO T 146 (.ip (ab (bD own ns vs)))=some (bD own ns vs):=rfl;have hex:aO T 31 (.ip (ab e.av))=some e.av:=AI
 rw[C108];simp only[S108,hsc,hex,ai];refine cG (IH own ns vs e m h R G hn hs he) fun v s h' hv Rs=>?_;simp only[bH (iF v),ar,cz,jV,FA47_0,FA47_1,aaZ,LD3,ai,ky,bi,de,aa5]
 grind [fm,gW]
theorem Bh:∀(ns:List az)(vs:List Val)(n:az)(v:Val)(s:az),ns.length=vs.length->iE (ns++[n]) (vs++[v]) s=if n=s then some v else iE ns vs s
 |[],[],n,v,s,_=>by simp[iE]
 |a:: ns,b:: vs,n,v,s,h=>by
  simp only[aa2,iE,Bh ns vs n v s (by simpa using h)]
  grind
 |[],_:: _,_,_,_,h=>by simp at h
 |_:: _,[],_,_,_,h=>by simp at h
def Nu(o:Option Val):M AV:=match o with
 |some v=>af v.av
 |none=>lg (sI 12)
theorem Fz(kk:List AV->M AV)(own:Int)(ns:List az)(vs:List Val)(e:Exp)(x1 x2 x3 x4:AV)(hl:ns.length=vs.length)(hb:ns.length<=1099511627776):∀(i:Nat),i<=ns.length->
  ae (L63_0 (callW pg) ae kk) [.hp 0 0,.ip [qi own,strs ns,vals vs],.ip (ab e.av),qi ((i:Int)-1),x1,x2,x3,x4]=Nu (iE (ns.take i) (vs.take i) e.s)
 |0,_=>by
  have hi:od T 56 (qi 12)=some (sI 12):=rfl;rw[FL63_0];simp only[L63_0,ax,aF,mQ,ai,am,hi];simp[iE,Nu,Qs];rfl
 |i+1,hi=>by
  have ih:=Fz kk own ns vs e x1 x2 x3 x4 hl hb i WD;have h1:i<ns.length:=WD
  have h2:i<vs.length:=WD
  have h3:(ns.take (i+1))=ns.take i++[ns[i]]:=AI
  have h4:(vs.take (i+1))=vs.take i++[vs[i]]:=AI
  rw[h3,h4,Bh _ _ _ _ _ Bk,FL63_0];have e1:((i+1:Nat):Int)-1=(i:Int):=WD
  rw[e1];simp only[L63_0];simp (disch:=omega) [aD,wH,DT,h1,h2]
  grind [bK,Nu]
@[simp] theorem XP(a:Exp)(l:List Exp):au T 29 (bY (a:: l)) (qi 0)=some (.ip (ab a.av)):=by
 grind [oA]
@[simp] theorem ixe1(a b:Exp)(l:List Exp):au T 29 (bY (a:: b:: l)) (qi 1)=some (.ip (ab b.av)):=by
 grind [oA]
@[simp] theorem ixe2(a b c:Exp)(l:List Exp):au T 29 (bY (a:: b:: c:: l)) (qi 2)=some (.ip (ab c.av)):=by
 grind [oA]
section
variable (o n:Int) (s m:az) (ns:List az) (es:List Exp)
@[simp] theorem tt:(Exp.mk o n s m ns es).op=o:=rfl
@[simp] theorem HU:(Exp.mk o n s m ns es).n=n:=rfl
@[simp] theorem N9:(Exp.mk o n s m ns es).s=s:=rfl
@[simp] theorem Qb:(Exp.mk o n s m ns es).m=m:=rfl
@[simp] theorem kK:(Exp.mk o n s m ns es).names=ns:=rfl
@[simp] theorem mP:(Exp.mk o n s m ns es).args=es:=rfl
end
def nQ(o n:Int)(s m:az)(ns:List az)(es:List Exp):AV.agg [qi o,qi n,.str s,.str m,strs ns,bY es]=(Exp.mk o n s m ns es).av:=by rw[Exp.av,Exp.cells_eq];rfl
theorem xB:∀(ns:List az)(vs:List Val)(s:az)(i:Int),ns.length=vs.length->(aS (fun x=>s== x) ns i= -1/\iv ns vs s=none)\/(∃(k:Nat)(h:k<vs.length),aS (fun x=>s== x) ns i=i+k/\iv ns vs s=some vs[k])
 |[],[],s,i,_=>.inl ⟨rfl,rfl⟩
 | n:: ns,v:: vs,s,i,h=>by
  simp only[aS,iv];by_cases hn:n=s
  ·grind
  ·have hn':(s== n)=false:=by simpa using fun e=>hn e.symm
   simp only[aaC hn,hn',aaK,aaR];rcases xB ns vs s (i+1) (by simpa using h)with⟨h1,h2⟩|⟨k,hk,h1,h2⟩
   ·grind
   ·right;exact⟨k+1,by simp;omega,qr,by simpa using h2⟩
 |[],_:: _,_,_,h=>by simp at h
 |_:: _,[],_,_,h=>by simp at h
def ol{x:X Val}(hx:(∃v,x= .ok v)\/(∃e,x= .er e)){m:Ms}(R:gF p nm m h):ly p nm Val.av (x m) (iy x h):=by
 rcases hx with⟨v,rfl⟩|⟨e,rfl⟩
 ·exact fm R
 ·exact gW R
def nJ(op:Int)(a b:Val):(∃v,nr op a b= .ok v)\/(∃e,nr op a b= .er e):=by
 unfold nr;split
 ·split
  all_goals grind
 ·split
  ·split
   ·grind
   ·split
    ·grind
    ·split
     all_goals grind
  grind
def TS{l:List Exp}(h:l.length=1):∃a,l=[a]:=by
 match l,h with
 |[a],_=>grind
def Fq{l:List Exp}(h:l.length=2):∃a b,l=[a,b]:=by
 match l,h with
 |[a,b],_=>grind
def ZX{l:List Exp}(h:l.length=3):∃a b c,l=[a,b,c]:=by
 match l,h with
 |[a,b,c],_=>grind
def Jt{enc:α->AV}{c:Prop}[Decidable c]{x y:X α}{a b:M AV}{m:Ms}(h1:c->ly p nm enc (x m) (a h))(h2:¬c->ly p nm enc (y m) (b h)):ly p nm enc ((if c then x else y) m) ((if c then a else b) h):=by
 grind
def I4(a b:Bool):dC T .eql 4 (.bool a) (.bool b)=some (.bool (a== b)):=by cases a<;>cases b<;>rfl
def uN(v:Val)(h:Hp):ah (aC 4 [] v.av) (fun w=>af (AV.agg [aa (ab w) 0,aa (ab w) 1,aa (ab w) 2,aa (ab w) 3])) h=af v.av h:=by rw[Rn]
def ey{r:Rs Val}{c:M AV}(H:ly p nm Val.av r (c h)):ly p nm Val.av r (ah c (fun v=>ah (aC 4 [] v) fun w=>af (AV.agg [aa (ab w) 0,aa (ab w) 1,aa (ab w) 2,aa (ab w) 3])) h):=by
 cases r with
 |ok v s=>
  obtain⟨h',h1,h2⟩:=H;refine⟨h',?_,h2⟩;rw[bM h1,Rn];rfl
 |er e s=>
  obtain⟨h',h1,h2⟩:=H;exact⟨h',IQ h1,h2⟩
theorem Kq{p:List Mod}{nm:SNm}{n:Nat}(IH:vW p nm n)(IR:QY p nm n)(IC:LG p nm n)(IW:IG p nm n):vW p nm (n+1):=by
 intro own ns vs e m h R G hn hs he;have IB:=t108 IH;by_cases hf:0<m.fuel
 rotate_left
 ·have e1:aR p (n+1) own ns vs e m= .er 16 m:=by
   show jP p (aR p n) own ns vs e m=_;unfold jP X.get;simp only;rw[aaH WD];rfl
  rw[e1];exact⟨h,MJ R hf _ e,R⟩
 have hspec:aR p (n+1) own ns vs e m=(if aE e.op= -2\/(aE e.op≠-1/\aE e.op≠e.args.length)then .er 13
   else if e.op=0 then .ok (pX e.n)
   else if e.op=1 then(if e.n=0\/e.n=1 then .ok (iz (e.n== 1))else .er 13)
   else if e.op=2 then(match iE ns vs e.s with|some v=>.ok v|none=>.er 12)
   else if e.op=3\/e.op=4\/e.op=5\/e.op=6\/e.op=7 then(aR p n own ns vs e.args[0]!).bind fun a=>(aR p n own ns vs e.args[1]!).bind fun b=>nr e.op a b
   else if e.op=8\/e.op=9 then(boolX (aR p n own ns vs e.args[0]!)).bind fun x=>if x=(e.op== 9)then .ok (iz (e.op== 9))else(boolX (aR p n own ns vs e.args[1]!)).bind fun y=>.ok (iz y)
   else if e.op=10 then(boolX (aR p n own ns vs e.args[0]!)).bind fun x=>.ok (iz !x)
   else if e.op=11 then(boolX (aR p n own ns vs e.args[0]!)).bind fun x=>if x=true then aR p n own ns vs e.args[1]! else aR p n own ns vs e.args[2]!
   else if e.op=12 then(aR p n own ns vs e.args[0]!).bind fun v=>aR p n own (ns++[e.s]) (vs++[v]) e.args[1]!
   else if e.op=13 then im (aR p n own ns vs) e
   else if e.op=14 then(aR p n own ns vs e.args[0]!).bind fun v=>(match iv v.names v.values e.s with|some x=>if v.kind=2 then .ok x else .er 13|none=>.er 13)
   else if e.op=15 then nL p (aR p n) own ns vs e
   else zv p (aR p n own ns vs) own e:X Val) (lp m):=by
  show jP p (aR p n) own ns vs e m=_;unfold jP X.get;simp only;rw[aaC WD];have hw:(if e.op=16 then tW (aR p n own ns vs e.args[0]!) e else tP p (aR p n own ns vs) own e)=zv p (aR p n own ns vs) own e:=rfl;rw[hw];rfl
 have hbm:=G.bud;have G1:GoodM p (lp m):=⟨G.right,by simp only[mu,lp]at hbm |-;omega,G.fr,by simp only[lp];omega,G.shape⟩;have hmu:mu (lp m)<1000000:=by simp only[mu,lp]at hbm |-;omega
 have hn1:(lp m).fuel<=n:=by simp only[lp];omega
 have hft:(lp m).fuel<=m.fuel:=by simp only[lp];omega
 have hs1:Sc p own ns vs (lp m):=hs.less hft;by_cases hc:uO e
 rotate_left
 ·obtain⟨h1,R1,e1⟩:=Tv R G hf (bD own ns vs) e hc;have hc':aE e.op= -2\/(aE e.op≠-1/\aE e.op≠e.args.length):=by
   unfold uO at hc;by_cases k:aE e.op= -2
   ·exact .inl k
   ·grind
  rw[hspec,aaH hc'];exact⟨h1,e1,R1⟩
 obtain⟨h1,R1,hl,hst⟩:=step0 R;have hw:IntKind.i64.wrap (m.fuel-1)=m.fuel-1:=aD WD (by simp only[mu]at hbm;omega);have hc':¬(aE e.op= -2\/(aE e.op≠-1/\aE e.op≠e.args.length)):=by
  unfold uO at hc;rintro (k|⟨k1,k2⟩)
  ·exact hc.1 k
  ·grind
 rw[hspec,aaC hc'];have hcc:=hc;have hce:=hc.2;obtain⟨op,en,es,em,en2,ea⟩:=e;simp only[tt,HU,N9,mP]at hce |-;unfold uO at hc;simp only[tt,mP]at hc;generalize hcode:callW pg 63 [.hp 0 0,bD own ns vs,(Exp.mk op en es em en2 ea).av] h=code;rw[C63]at hcode;have hW:∀v:Val,∀h,ah (aC 4 [] v.av) (fun w=>af (AV.agg [aa (ab w) 0,aa (ab w) 1,aa (ab w) 2,aa (ab w) 3])) h=af v.av h:=uN;by_cases k0:op=0
 ·subst k0;have hlen:ea.length=0:=by simp[aE]at hce;omega
  obtain rfl:=aaO hlen;simp[S63,hl,hst,hf,bi,de,hw,t104,aE,K63_2,K63_1,K63_0,bO,t105]at hcode;simp;rw[<- hcode];exact fm (a:=pX en) R1
 by_cases k1:op=1
 ·subst k1;have hlen:ea.length=0:=by simp[aE]at hce;omega
  obtain rfl:=aaO hlen;simp[S63,hl,hst,hf,bi,de,hw,t104,aE,K63_2,K63_1,K63_0,bO,t106]at hcode;simp;rw[<- hcode];exact Jt (fun _=>fm (a:=iz (en== 1)) R1) (fun _=>gW R1)
 by_cases k2:op=2
 ·subst k2;have hlen:ea.length=0:=by simp[aE]at hce;omega
  obtain rfl:=aaO hlen;have hnl:=hs.right.1;have hns:(ns.length:Int)<=549755813888:=by have:=hs.len;omega
  have hloop:=Fz (K63_0 (callW pg) ae) own ns vs (.mk 2 en es em en2 []) (.int .i64 0) (.int .i64 0) (.sl []) (.sl []) hnl WD ns.length (aaI _);have hwl:IntKind.i64.wrap ((ns.length:Int)-1)=(ns.length:Int)-1:=aD WD WD;rw[acp,hnl,acp]at hloop;simp only[bK,tt,HU,N9,Qb,kK,mP]at hloop;simp[S63,hl,hst,hf,bi,de,hw,t104,aE,hwl]at hcode;rw[hnl,hloop]at hcode;simp;rw[<- hcode];cases iE ns vs es with
  |none=>exact gW R1
  |some v=>exact fm R1
 by_cases k3:op=3
 ·subst k3;have hlen:ea.length=2:=by simp[aE]at hce;omega
  obtain⟨a,b,rfl⟩:=Fq hlen;have ha:aT a:=bA he AI;have hb:aT b:=bA he AI;simp[S63,hl,hst,hf,bi,de,hw,t104,aE,K63_2,K63_1,K63_0,bO]at hcode;simp;rw[<- hcode];refine cG (IH own ns vs a _ _ R1 G1 hn1 hs1 ha) fun x s1 h2 hx R2=>?_;obtain⟨G2,_,f2⟩:=G1.eval hs1.right hx;refine cG (IH own ns vs b _ _ R2 G2 WD (hs1.less f2) hb) fun y s2 h3 hy R3=>?_;rw[t107 3 x y AI];exact ey (c:=iy (nr 3 x y)) (ol (nJ _ _ _) R3)
 by_cases k4:op=4
 ·subst k4;have hlen:ea.length=2:=by simp[aE]at hce;omega
  obtain⟨a,b,rfl⟩:=Fq hlen;have ha:aT a:=bA he AI;have hb:aT b:=bA he AI;simp[S63,hl,hst,hf,bi,de,hw,t104,aE,K63_2,K63_1,K63_0,bO]at hcode;simp;rw[<- hcode];refine cG (IH own ns vs a _ _ R1 G1 hn1 hs1 ha) fun x s1 h2 hx R2=>?_;obtain⟨G2,_,f2⟩:=G1.eval hs1.right hx;refine cG (IH own ns vs b _ _ R2 G2 WD (hs1.less f2) hb) fun y s2 h3 hy R3=>?_;rw[t107 4 x y AI];exact ey (c:=iy (nr 4 x y)) (ol (nJ _ _ _) R3)
 by_cases k5:op=5
 ·subst k5;have hlen:ea.length=2:=by simp[aE]at hce;omega
  obtain⟨a,b,rfl⟩:=Fq hlen;have ha:aT a:=bA he AI;have hb:aT b:=bA he AI;simp[S63,hl,hst,hf,bi,de,hw,t104,aE,K63_2,K63_1,K63_0,bO]at hcode;simp;rw[<- hcode];refine cG (IH own ns vs a _ _ R1 G1 hn1 hs1 ha) fun x s1 h2 hx R2=>?_;obtain⟨G2,_,f2⟩:=G1.eval hs1.right hx;refine cG (IH own ns vs b _ _ R2 G2 WD (hs1.less f2) hb) fun y s2 h3 hy R3=>?_;rw[t107 5 x y AI];exact ey (c:=iy (nr 5 x y)) (ol (nJ _ _ _) R3)
 by_cases k6:op=6
 ·subst k6;have hlen:ea.length=2:=by simp[aE]at hce;omega
  obtain⟨a,b,rfl⟩:=Fq hlen;have ha:aT a:=bA he AI;have hb:aT b:=bA he AI;simp[S63,hl,hst,hf,bi,de,hw,t104,aE,K63_2,K63_1,K63_0,bO]at hcode;simp;rw[<- hcode];refine cG (IH own ns vs a _ _ R1 G1 hn1 hs1 ha) fun x s1 h2 hx R2=>?_;obtain⟨G2,_,f2⟩:=G1.eval hs1.right hx;refine cG (IH own ns vs b _ _ R2 G2 WD (hs1.less f2) hb) fun y s2 h3 hy R3=>?_;rw[t107 6 x y AI];exact ey (c:=iy (nr 6 x y)) (ol (nJ _ _ _) R3)
 by_cases k7:op=7
 ·subst k7;have hlen:ea.length=2:=by simp[aE]at hce;omega
  obtain⟨a,b,rfl⟩:=Fq hlen;have ha:aT a:=bA he AI;have hb:aT b:=bA he AI;simp[S63,hl,hst,hf,bi,de,hw,t104,aE,K63_2,K63_1,K63_0,bO]at hcode;simp;rw[<- hcode];refine cG (IH own ns vs a _ _ R1 G1 hn1 hs1 ha) fun x s1 h2 hx R2=>?_;obtain⟨G2,_,f2⟩:=G1.eval hs1.right hx;refine cG (IH own ns vs b _ _ R2 G2 WD (hs1.less f2) hb) fun y s2 h3 hy R3=>?_;rw[t107 7 x y AI];exact ey (c:=iy (nr 7 x y)) (ol (nJ _ _ _) R3)
 by_cases k8:op=8
 ·subst k8;have hlen:ea.length=2:=by simp[aE]at hce;omega
  obtain⟨a,b,rfl⟩:=Fq hlen;have ha:aT a:=bA he AI;have hb:aT b:=bA he AI;simp[S63,hl,hst,hf,bi,de,hw,t104,aE,K63_2,K63_1,K63_0,bO]at hcode;simp;rw[<- hcode];refine cG (IB own ns vs a _ _ R1 G1 hn1 hs1 ha) fun x s1 h2 hx R2=>?_;obtain⟨G2,f2⟩:=G1.bool hs1.right hx;rw[I4];simp only[ai,am];cases x
  ·simp[t106];exact fm R2
  ·simp[t106];refine cG (IB own ns vs b _ _ R2 G2 WD (hs1.less f2) hb) fun y s2 h3 hy R3=>?_;simp_all[t106,fm]
 by_cases k9:op=9
 ·subst k9;have hlen:ea.length=2:=by simp[aE]at hce;omega
  obtain⟨a,b,rfl⟩:=Fq hlen;have ha:aT a:=bA he AI;have hb:aT b:=bA he AI;simp[S63,hl,hst,hf,bi,de,hw,t104,aE,K63_2,K63_1,K63_0,bO]at hcode;simp;rw[<- hcode];refine cG (IB own ns vs a _ _ R1 G1 hn1 hs1 ha) fun x s1 h2 hx R2=>?_;obtain⟨G2,f2⟩:=G1.bool hs1.right hx;rw[I4];simp only[ai,am];cases x
  ·simp[t106];refine cG (IB own ns vs b _ _ R2 G2 WD (hs1.less f2) hb) fun y s2 h3 hy R3=>?_;simp_all[t106,fm]
  ·simp[t106];exact fm R2
 by_cases k10:op=10
 ·subst k10;have hlen:ea.length=1:=by simp[aE]at hce;omega
  obtain⟨a,rfl⟩:=TS hlen;have ha:aT a:=bA he AI;simp[S63,hl,hst,hf,bi,de,hw,t104,aE,K63_2,K63_1,K63_0,bO]at hcode;simp;rw[<- hcode];refine cG (IB own ns vs a _ _ R1 G1 hn1 hs1 ha) fun x s1 h2 hx R2=>?_;simp_all[t106,fm]
 by_cases k11:op=11
 ·subst k11;have hlen:ea.length=3:=by simp[aE]at hce;omega
  obtain⟨a,b,c,rfl⟩:=ZX hlen;have ha:aT a:=bA he AI;have hb:aT b:=bA he AI;have hc3:aT c:=bA he AI;simp[S63,hl,hst,hf,bi,de,hw,t104,aE,K63_2,K63_1,K63_0,bO]at hcode;simp;rw[<- hcode];refine cG (IB own ns vs a _ _ R1 G1 hn1 hs1 ha) fun x s1 h2 hx R2=>?_;obtain⟨G2,f2⟩:=G1.bool hs1.right hx;simp only[am];exact Jt (fun _=>ey (IH own ns vs b _ _ R2 G2 WD (hs1.less f2) hb)) (fun _=>ey (IH own ns vs c _ _ R2 G2 WD (hs1.less f2) hc3))
 by_cases k12:op=12
 ·subst k12;have hlen:ea.length=2:=by simp[aE]at hce;omega
  obtain⟨a,b,rfl⟩:=Fq hlen;have ha:aT a:=bA he AI;have hb:aT b:=bA he AI;simp[S63,hl,hst,hf,bi,de,hw,t104,aE,K63_2,K63_1,K63_0,bO]at hcode;simp;rw[<- hcode];refine cG (IH own ns vs a _ _ R1 G1 hn1 hs1 ha) fun x s1 h2 hx R2=>?_;obtain⟨G2,rx,f2⟩:=G1.eval hs1.right hx;have hsl:=hs1.len;have hrl:=hs1.right.1;have hfu:=G1.fuel;rw[t103 own ns vs es x WD WD];simp only[eN,ar];refine ey (IH own (ns++[es]) (vs++[x]) b _ _ R2 G2 WD ⟨hs1.own,⟨by simp[hrl],fun w hw=>?_⟩,?_⟩ hb)
  ·rcases aba.1 hw with k|k
   ·exact hs1.right.2 w k
   grind
  ·have:(lp m).fuel=m.fuel-1:=rfl
   have:=hs.len
   grind
 by_cases k13:op=13
 ·subst k13;simp[S63,hl,hst,hf,bi,de,hw,t104,aE,K63_2,K63_1,K63_0,bO,nQ]at hcode;simp;rw[<- hcode];exact ey (IR own ns vs _ _ _ R1 G1 hn1 hs1 he)
 by_cases k14:op=14
 ·subst k14;have hlen:ea.length=1:=by simp[aE]at hce;omega
  obtain⟨a,rfl⟩:=TS hlen;have ha:aT a:=bA he AI;simp[S63,hl,hst,hf,bi,de,hw,t104,aE,K63_2,K63_1,K63_0,bO]at hcode;simp;rw[<- hcode];refine cG (IH own ns vs a _ _ R1 G1 hn1 hs1 ha) fun x s1 h2 hx R2=>?_;obtain⟨G2,rx,f2⟩:=G1.eval hs1.right hx;have hrl:=Ih rx;have h8:=Ig rx;have hi:=t110 x.names es WD;rw[bH (iF x)];simp only[ar,cz,jV,aa5,aaZ,LD28,LD34,LD3,ai,hi,ky,mQ,cD,ax,qD,bi,de];rcases xB x.names x.values es 0 hrl with⟨j1,j2⟩|⟨k,hk,j1,j2⟩
  ·rw[j1,j2];simp only[show decide ((0:Int)<=-1)=false by decide,adr,aaK,aaR];exact gW R2
  ·rw[j1,j2];have hk0:decide ((0:Int)<=0+(k:Int))=true:=AI
   rw[hk0];simp only[abN];by_cases hk2:x.kind=2
   ·have hix:=DT (l:=x.values) (n:=0+(k:Int)) WD WD;have e5:(0+(k:Int)).toNat=k:=WD
    rw[e5,aaG x.values k hk]at hix;have hld:aO T 47 (.ip (ab (x.values[k]).av))=some (x.values[k]).av:=AI
    simp_all[fm]
   simp_all[gW]
 by_cases k15:op=15
 ·subst k15;simp[S63,hl,hst,hf,bi,de,hw,t104,aE,K63_2,K63_1,K63_0,bO,nQ]at hcode;simp;rw[<- hcode];exact ey (IC own ns vs _ _ _ R1 G1 hmu hn1 hs1 he)
 by_cases k16:op=16
 ·subst k16;simp[S63,hl,hst,hf,bi,de,hw,t104,aE,K63_2,K63_1,K63_0,bO,nQ]at hcode;have hce':aE 16=ea.length:=by simp only[aE]at hce |-;simpa using hce
  simp only[aE]at hce';simp at hce';simp[<- hce']at hcode;simp;rw[<- hcode];exact ey (IW own ns vs (.mk 16 en es em en2 ea) _ _ AI hcc R1 G1 hmu hn1 hs1 he)
 by_cases k17:op=17
 ·subst k17;simp[S63,hl,hst,hf,bi,de,hw,t104,aE,K63_2,K63_1,K63_0,bO,nQ]at hcode;have hce':aE 17=ea.length:=by simp only[aE]at hce |-;simpa using hce
  simp only[aE]at hce';simp at hce';simp[<- hce']at hcode;simp;rw[<- hcode];exact ey (IW own ns vs (.mk 17 en es em en2 ea) _ _ AI hcc R1 G1 hmu hn1 hs1 he)
 by_cases k18:op=18
 ·subst k18;simp[S63,hl,hst,hf,bi,de,hw,t104,aE,K63_2,K63_1,K63_0,bO,nQ]at hcode;have hce':aE 18=ea.length:=by simp only[aE]at hce |-;simpa using hce
  simp only[aE]at hce';simp at hce';simp[<- hce']at hcode;simp;rw[<- hcode];exact ey (IW own ns vs (.mk 18 en es em en2 ea) _ _ AI hcc R1 G1 hmu hn1 hs1 he)
 grind [aE]
def vV{β γ:Type}(x:X α)(f:α->X β)(g:β->X γ):(x.bind f).bind g=x.bind fun a=>(f a).bind g:=by
 funext m;unfold X.bind
 grind
theorem tR{β:Type}(a:α)(f:α->X β):(X.ok a).bind f=f a:=rfl
def t144(l:List az)(h:l.length<=8796093022208):callW pg 144 [strs l]=af (strs l):=by
 have e:callW pg 144 [strs l]=ir T 28 (callW pg) [strs l]:=dc hOther rfl _;rw[e];show bJ (cC T 28 (.sl []) (strs l))=_
 have:=OQ (a:=[]) (b:=l) Bk
 simp only[aaU]at this;show bJ (cC T 28 (strs []) (strs l))=_;rw[this];rfl
theorem Fy{p:List Mod}{nm:SNm}{n:Nat}(IH:vW p nm n)(own:Int)(ns:List az)(vs:List Val)(en:List az)(es:List Exp)(x5 x6 x7 x8:AV)(hes:∀e∈es,aT e)(h8:es.length<=8):
  ∀(B A:List Exp)(acc:List Val)(m:Ms)(h:Hp),A++B=es->acc.length=A.length->(∀v∈acc,Rv v)->en.length<=8->gF p nm m h->GoodM p m->m.fuel<=n->Sc p own ns vs m->
  ly p nm Val.av ((listX (aR p n own ns vs) B).bind (fun ws=>if iw (.mk 2 0 en (acc++ws))<=4 then .ok (.mk 2 0 en (acc++ws))else .er 6) m)
   (ae (L109_0 (callW pg) ae) [.hp 0 0,.ip (ab (bD own ns vs)),bY es,qi es.length,qi A.length,x5,x6,x7,x8,qi 2,qi 0,strs en,vals acc] h)
 | [],A,acc,m,h,e,ha,hr,hen,R,G,hn,hs=>by
  simp only[abr]at e;subst e;have hsz:(Val.mk 2 0 en acc).sz<=1099511627776:=by
   have h2:ba acc<=acc.length*200000:=by
    have key:∀l:List Val,(∀v∈l,Rv v)->ba l<=l.length*200000:=by
     intro l
     induction l with
     |nil=>intro _;simp[ba]
     |cons v l ih=>
      grind [F5,ba]
    exact key acc hr
   simp only[Val.sz];have:acc.length*200000<=8*200000:=aa3 _ WD;omega
  have hlv:=t145 _ (.mk 2 0 en acc) (aaI _) hsz;rw[Val.av_eq]at hlv;simp only[aat,aaA,aao,aah]at hlv;have hw:∀h,ah (aC 4 [] (AV.agg [qi 2,qi 0,strs en,vals acc])) (fun w=>af (AV.agg [aa (ab w) 0,aa (ab w) 1,aa (ab w) 2,aa (ab w) 3])) h=af (Val.mk 2 0 en acc).av h:=fun h=>by
   have:=uN (Val.mk 2 0 en acc) h
   simp_all[Val.av_eq]
  rw[FL109_0];simp only[listX,tR,abr];simp only[L109_0,ax,aF,bc,ai,am,acY,abO,aaK,aaR,hlv,ar,sD,bi,de,hw];by_cases h4:iw (.mk 2 0 en acc)<=4
  ·have h4':decide (((iw (.mk 2 0 en acc):Nat):Int)<=4)=true:=by simp;omega
   simp_all[fm]
  ·have h4':decide (((iw (.mk 2 0 en acc):Nat):Int)<=4)=false:=by simp;omega
   simp only[h4,h4',aaK,aaR];exact gW R
 | x:: B,A,acc,m,h,e,ha,hr,hen,R,G,hn,hs=>by
  have hll:A.length+(B.length+1)=es.length:=by rw[<- e];simp
  have h1:(A.length:Int)<(es.length:Int):=WD
  have hx:es[A.length]'(WD)=x:=by subst e;simp
  have hm:x∈es:=by rw[<- e];simp
  have hi:=oA (l:=es) (n:=(A.length:Int)) WD h1;rw[show ((A.length:Int)).toNat=A.length by omega,aaG es A.length WD,hx]at hi;have hsc:aO T 146 (.ip (ab (bD own ns vs)))=some (bD own ns vs):=rfl;have hex:aO T 31 (.ip (ab x.av))=some x.av:=AI
  rw[FL109_0];simp only[listX,vV,tR];simp only[L109_0,ax,aF,bc,ai,am,h1,abj,aaV,hi,hex,bH (tm x),ar,hsc,cz];refine cG (IH own ns vs x m h R G hn hs (hes x hm)) fun v s h' hv Rs=>?_;obtain⟨G2,rv,f2⟩:=G.eval hs.right hv;have hb2:ay T 34 1 [(0,v.av)]=some (vals [v]):=by rw[v.av_eq];simp[vals,gI,v.av_eq];rfl
  have ha2:cC T 34 (vals acc) (vals [v])=some (vals (acc++[v])):=OR Bk;have hc1:dH (vals (acc++[v]))=af (vals (acc++[v])):=rfl;have hw:IntKind.i64.wrap ((A.length:Int)+1)=((A.length+1:Nat):Int):=bz WD;simp only[hb2,ai,ha2,hc1,ar,gb,hw];have ih:=Fy IH own ns vs en es x5 x6 x7 x8 hes h8 B (A++[x]) (acc++[v]) s h' qr (by simp[ha]) (fun w hw=>by
   grind) hen Rs G2 WD (hs.less f2)
  grind
theorem t109{n:Nat}(IH:vW p nm n):QY p nm n:=by
 intro own ns vs e m h R G hn hs he;obtain⟨l1,l2⟩:=oM he;unfold im;have ha:=t140 e.names WD;have hcl:=t144 e.names WD;have hB:bS T true 47 [(0,qi 2),(2,strs e.names)]=some (.agg [qi 2,qi 0,strs e.names,.hn]):=rfl;have hC:aC 4 [3] (.agg [qi 2,qi 0,strs e.names,.hn])=af (.agg [qi 2,qi 0,strs e.names,.hn]):=rfl;rw[C109];simp only[S109,bK,FA31_4,FA31_5,aa5,aaZ,LD28,LD29,wJ,B6,ai,ky,ha,ar,cD,ax,aF,qD,bi,de,sD,hcl,hB,hC,cz];have hsc:(AV.ip (ab (bD own ns vs)))= .ip [qi own,strs ns,vals vs]:=rfl;by_cases hl:e.names.length=e.args.length
 ·by_cases hasc:J4 e.names=true
  ·have e1:((e.names.length:Int)== (e.args.length:Int)&&J4 e.names)=true:=by simp[hl,hasc]
   simp only[hl,hasc,e1,adf,aaV];by_cases h8:e.args.length<=8
   ·have h8':decide ((e.args.length:Int)<=8)=true:=by simp;omega
    have e2:((e.args.length:Int)== (e.args.length:Int)&&true)=true:=AI
    simp only[h8,h8',e2,aaV]
    have:=Fy IH own ns vs e.names e.args (qi 0) (qi 0) (.sl []) (.sl []) (fun x hx=>bA he hx) h8 e.args [] [] m h rfl rfl (fun v hv=>by cases hv) WD R G hn hs
    simp only[aaU]at this;exact this
   ·have h8':decide ((e.args.length:Int)<=8)=false:=by simp;omega
    have e2:((e.args.length:Int)== (e.args.length:Int)&&true)=true:=AI
    simp only[h8,h8',e2,aaV,aaK,aaR];exact gW R
  simp_all[gW]
 simp_all[gW]
def HX(s t:az)(v:AV)(h:aG v=true):cq 3 (.agg [.str s,.str t,v])=true:=by
 simp only[cq,df,ab,abf,acg];rw[h];rfl
def Hd{tag:Nat->Nat}{dv cv sv:AV}{m:Ms}(R:RepT (rowP p nm.told) nm tag dv cv sv m h)(l:List Val)(hb:l.length<=274877906944):
  ∃av h1 tag1,callW pg 57 [vals l] h= .ok av h1/\RepT (rowP p nm.told) nm tag1 dv cv sv m h1/\zE tag1 4 h1 l av/\aG av=true:=by
 have e0:callW pg 57 [vals l]=dZ T 34 (callW pg) [vals l]:=dc hOther rfl _;have e1:=uX (T:=T) (t:=34) rfl rfl rfl rfl rfl Vc (callW pg) l (show l.length*64<=140737488355328 by omega) h;rw[e0];by_cases hl:l=[]
 ·rw[aaH hl]at e1;exact⟨_,h,tag,e1,R,.inl (.inl (by rw[hl])),rfl⟩
 ·rw[aaC hl]at e1;refine⟨_,_,_,e1,(R.more (bw l) 4).1,.inr ⟨h.length,rfl,AI,AI⟩,rfl⟩
def Lg{tag:Nat->Nat}{dv cv sv:AV}{m:Ms}(R:RepT (rowP p nm.told) nm tag dv cv sv m h)(c:Ap.Call)(av:AV)(ha:zE tag 4 h c.args av)(hok:aG av=true)(hb:m.calls.length<=2000000):
  ∃cv' h1 h2,appH T 24 false cv (.sl [.agg [.str c.module,.str c.func,av]]) h= .ok cv' h1/\cp T 24 (.hp 0 10) cv' h1= .ok (.tup []) h2/\gF p nm { m with calls:=m.calls++[c] } h2:=by
 obtain⟨h1,cv',tag',e1,K,H,hc⟩:=yP (T:=T) (t:=24) rfl rfl rfl rfl Vc rfl Vc (x:=.agg [.str c.module,.str c.func,av]) R.cs (fun h0=>by
  have:m.calls=[]:=aaO h0;rw[this];rfl) (fun cs h=>h.ok.1) (HX _ _ _ hok) (show (m.calls.length+1)*56<=140737488355328 by omega)
 have h0:=(K 0 _ R.r0 (by rw[R.t0];decide)).1;refine⟨cv',h1,_,e1,gD rfl h0 (iV hc).1 (show 10+1<=12 by decide) Vc,?_⟩;have hac:ab cv'=[cv']:=(iV hc).2.1
 have:=R.pushCall (m':={ m with calls:=m.calls++[c] }) K ha H rfl rfl rfl id
 refine⟨tag',dv,cv',sv,?_⟩;rw[hac];exact this
def ze{m:Ms}(R:gF p nm m h)(x:Int):∃h1,gF p nm { m with frames:=x } h1/\(∀f:AV->M AV,ah (bC T 3 (.hp 0 3)) f h=f (qi m.frames) h)/\
  (∀f:AV->M AV,ah (cp T 3 (.hp 0 3) (qi x)) f h=f (.tup []) h1):=by
 obtain⟨tag,dv,cv,sv,R⟩:=R;exact⟨_,⟨tag,dv,cv,sv,R.set0 rfl rfl rfl id⟩,fun f=>bM (dX rfl rfl R.r0 rfl),fun f=>bM (gD rfl R.r0 rfl (show 3+1<=12 by decide) Vc)⟩
theorem Bi(f:Fun)(a:Int)(ps:List bQ)(l:List Val)(x6 x7 x8 x9:AV)(hb:ps.length<=274877906944)(hl:l.length=ps.length):∀(B A:List bQ)(lb la:List Val),A++B=ps->la++lb=l->la.length=A.length->
  ae (L60_0 (callW pg) ae) [.hp 0 0,vals l,.ip (ab f.av),aB ps,.int .i64 ps.length,.int .i64 A.length,x6,x7,x8,x9,.int .i64 a,strs (A.map (·.1)),vals la]=
  ae (L60_0 (callW pg) ae) [.hp 0 0,vals l,.ip (ab f.av),aB ps,.int .i64 ps.length,.int .i64 ps.length,x6,x7,x8,x9,.int .i64 a,strs (ps.map (·.1)),vals l]
 | [],A,lb,la,e,e2,hla=>by
  simp only[abr]at e;subst e;have hz:lb=[]:=by
   apply aaO;have:(la++lb).length=l.length:=by rw[e2]
   rw[abh]at this;omega
  grind
 | x:: B,A,lb,la,e,e2,hla=>by
  have hll:A.length+(B.length+1)=ps.length:=by rw[<- e];simp
  have h1:(A.length:Int)<(ps.length:Int):=WD
  have hx:ps[A.length]'(WD)=x:=by subst e;simp
  obtain⟨v,lb',rfl⟩:∃v lb',lb=v:: lb':=by
   cases lb with
   |nil=>
    grind
   |cons v lb'=>grind
  have hv:l[A.length]'(WD)=v:=by
   subst e2;rw[List.getElem_append_right WD];simp[hla]
  have hi:=rn (l:=ps) (n:=(A.length:Int)) WD h1;rw[show ((A.length:Int)).toNat=A.length by omega,aaG ps A.length WD,hx]at hi;have hj:=DT (l:=l) (n:=(A.length:Int)) WD WD;rw[show ((A.length:Int)).toNat=A.length by omega,aaG l A.length WD,hv]at hj;have hfl:aO T 96 (.ip [.str x.1,.int .i64 x.2.kind,aB x.2.fields])=some (bF x):=AI
  have hvl:aO T 47 (.ip (ab v.av))=some v.av:=AI
  have hw:IntKind.i64.wrap ((A.length:Int)+1)=((A.length+1:Nat):Int):=bz WD;have hbd:=t103 a (A.map (·.1)) la x.1 v Bk WD;have ih:=Bi f a ps l x6 x7 x8 x9 hb hl B (A++[x]) lb' (la++[v]) qr qr (by simp[hla]);simp only[ack,aa0,acq,abh,abS]at ih;rw[<- ih,FL60_0];simp only[L60_0,ax,aF,bc,ai,am,h1,abj,aaV,hi,hfl,bH (oi x),ar,cz,jR,FA96_0,aaZ,LD9,hj,hvl,bO,hbd,eN,bU (rX _ _ _),ga,gb,hw]
def BZ(p:List Mod)(nm:SNm)(n:Nat):Prop:=∀(a:Int) (f:Fun) (l:List Val) m h,0<=a->a<p.length->f∈(p[a.toNat]?.getD default).funcs->l.length=f.params.length->(∀v∈l,Rv v)->gF p nm m h->GoodM p m->mu m<1000000->m.fuel<=n->
 ly p nm Val.av (bT p (aR p n) a f l m) (callW pg 60 [.hp 0 0,qi a,f.av,vals l] h)
def GX(s t:az)(v:AV)(h:aG v=true):bS T false 65 [(0,.str s),(1,.str t),(2,v)]=some (.agg [.str s,.str t,v]):=by
 have hc:=iV h;show (vj _ _ [(0,.str s),(1,.str t),(2,v)]).map AV.agg=_;simp only[vj];have h2:=hc.2.2;have h3:=hc.2.1;cases v with
 |any=>cases h
 |agg _=>cases h
 |tup _=>cases h
 |_=>rfl
theorem Ee(x:AV)(hx:df x=some 3):ay T 24 1 [(0,x)]=some (.sl [x]):=by
 have h1:ay T 24 1 [(0,x)]=(lF 3 (List.replicate 1 (.agg [.str [],.str [],.sl []])) [(0,x)]).map .sl:=rfl
 grind [lF]
theorem Hi{p:List Mod}{nm:SNm}{n:Nat}(LB:LimB p)(IH:vW p nm n)(a:Int)(f:Fun)(l:List Val)(m:Ms)(h0:0<=a)(ha:a<p.length)(hf:f∈(p[a.toNat]?.getD default).funcs)(hl:l.length=f.params.length)(hr:∀v∈l,Rv v)(G:GoodM p m)(hmu:mu m<1000000)(hn:m.fuel<=n):
  ∀ (m1:Ms) (h1:Hp),gF p nm m1 h1->m1= { m with calls:=if f.pub=true then m.calls++[⟨(p[a.toNat]?.getD default).name,f.name,l⟩]else m.calls } ->m.frames<60->
   ly p nm Val.av (((aR p n a (f.params.map (·.1)) l f.body).bind fun v=>.upd (fun m=>{ m with frames:=m.frames-1 }) (.ok v)) (jk p a f l m))
    (K60_0 (callW pg) ae [.hp 0 0,.int .i64 a,vals l,.ip (ab f.av),.int .i64 0,.int .i64 0,.sl [],.sl []] h1):=by
 have hlt:a.toNat<p.length:=WD
 have hmp:p[a.toNat]?.getD default∈p:=by rw[aaE hlt];exact List.getElem_mem hlt
 obtain⟨hbody,hparams⟩:=LB.body _ hmp f hf;have hfb:=G.bud;have hfu:=G.fuel;have hfr:=G.fr;intro m1 h1 R1 e1 h60;have hB:bS T false 146 [(0,.int .i64 a)]=some (bD a [] []):=rfl;have hcell:=bU (rX a [] []);have hloop:=Bi f a f.params l (.int .i64 0) (.int .i64 0) (.sl []) (.sl []) hparams hl f.params [] l [] rfl rfl rfl;have hw1:IntKind.i64.wrap (m.frames+1)=m.frames+1:=aD WD WD;obtain⟨h2,R2,l2,s2⟩:=ze R1 (m.frames+1);have e2:{ m1 with frames:=m.frames+1 } = jk p a f l m:=by rw[e1];rfl
 have hm1f:m1.frames=m.frames:=by rw[e1]
 rw[e2]at R2;rw[hm1f]at l2;have hld:aO T 38 (.ip (aB f.params:: [.int .i64 f.result.kind,aB f.result.fields,.int .i64 f.effects,.int .i64 f.body.op,.int .i64 f.body.n,.str f.body.s,.str f.body.m,strs f.body.names,bY f.body.args]))=some (aB f.params):=rfl;have hex:aO T 31 (.ip [.int .i64 f.body.op,.int .i64 f.body.n,.str f.body.s,.str f.body.m,strs f.body.names,bY f.body.args])=some f.body.av:=by
  have:aO T 31 (.ip (ab f.body.av))=some f.body.av:=AI
  rwa [bK]at this
 simp only[acq,aaW]at hloop;have hz:((0:Nat):Int)=0:=rfl;rw[hz]at hloop;have hm2:(if f.pub=true then m.calls++[(⟨(p[a.toNat]?.getD default).name,f.name,l⟩:Ap.Call)]else m.calls).length<=m.calls.length+1:=by
  split
  ·simp
  ·omega
 have G2:GoodM p (jk p a f l m):=by
  refine⟨⟨G.right.1,fun c hc=>?_⟩,?_,qr,hfu,G.shape⟩
  ·simp only[jk]at hc;split at hc
   ·rcases aba.1 hc with k|k
    ·exact G.right.2 c k
    grind
   ·exact G.right.2 c hc
  ·grind [mu]
 simp only[K60_0,ax,aF,hB,ai,hcell,ar,cz,ga,jS,FA51_2,FA51_5,aa5,aaZ,hld,wK]at hloop |-;rw[show strs []=strs []from rfl]at hloop;rw[hloop,FL60_0];simp only[L60_0,ax,aF,bc,ai,am,acY,abO,aaK,aaR,fA,FH135_3,aa7,l2,gb,hw1,s2,FA51_5,aa5,aaZ,hex,bO];have hns:((f.params.map (·.1)).length:Int)+(jk p a f l m).fuel<=549755813888:=by
  simp only[abA,jk];simp only[mu]at hfb;omega
 refine cG (IH a (f.params.map (·.1)) l f.body _ _ R2 G2 hn ⟨ha,⟨by simp[hl],hr⟩,hns⟩ hbody) fun v s h3 hv R3=>?_;obtain⟨G3,_,_⟩:=G2.eval ⟨by simp[hl],hr⟩ hv;obtain⟨h4,R4,l4,s4⟩:=ze R3 (s.frames-1);have hfr3:=G3.fr;have hw2:IntKind.i64.wrap (s.frames-1)=s.frames-1:=aD WD WD;have hvl:aO T 47 (.ip (ab v.av))=some v.av:=AI
 simp only[bH (iF v),ar,cz,fA,ai,FH135_3,aa7,l4,Cg,hw2,s4,hvl];have e9:_=Av.R.ok v.av h4:=uN v h4;rw[e9];exact⟨h4,rfl,R4⟩
def t60{n:Nat}(LB:LimB p)(IH:vW p nm n):BZ p nm n:=by
 intro a f l m h h0 ha hf hl hr R G hmu hn;have hlt:a.toNat<p.length:=WD
 have hmp:p[a.toNat]?.getD default∈p:=by rw[aaE hlt];exact List.getElem_mem hlt
 obtain⟨hbody,hparams⟩:=LB.body _ hmp f hf;have hfb:=G.bud;have hfu:=G.fuel;have hfr:=G.fr;have tail:=Hi LB IH a f l m h0 ha hf hl hr G hmu hn;simp only[jS]at tail;obtain⟨tag,dv,cv,sv,R0⟩:=R;have l3:∀g:AV->M AV,ah (bC T 3 (.hp 0 3)) g h=g (qi m.frames) h:=fun g=>bM (dX rfl rfl R0.r0 rfl);have lc:∀g:AV->M AV,ah (bC T 24 (.hp 0 10)) g h=g cv h:=fun g=>bM (dX rfl rfl R0.r0 rfl);have lm:∀g:AV->M AV,ah (bC T 22 (.hp 0 0)) g h=g (mods p) h:=fun g=>bM (dX rfl rfl R0.r0 (by rw[<- wy (t:=nm.told) (fun e=>qr)];rfl));generalize hcode:callW pg 60 [.hp 0 0,qi a,f.av,vals l] h=code;rw[C60]at hcode;simp -implicitDefEqProofs only[S60,fA,ai,FH135_3,aa7,l3,bc,bi,yj]at hcode;by_cases h60:m.frames<60
 ·rw[nO,aaH h60];have hd:decide (m.frames<60)=true:=by simpa using h60
  simp only[hd,de,aaV]at hcode;simp -implicitDefEqProofs only[jS,FA51_1,FA51_0,aa5,aaZ,LD4,LD9,ai,am]at hcode;by_cases hp:f.pub=true
  ·simp only[hp,aaV]at hcode tail;have hi:=lT (l:=p) (n:=a) h0 ha;rw[aaG p a.toNat hlt]at hi;have e3:p[a.toNat]?.getD default=p[a.toNat]:=by rw[aaE hlt];rfl
   obtain⟨av,h1,tag1,c1,R1,A1,ok1⟩:=Hd R0 l WD;obtain⟨cv',h2,h3,p1,p2,R3⟩:=Lg R1 ⟨p[a.toNat].name,f.name,l⟩ av A1 ok1 (by simp only[mu]at hmu;omega);have hB:bS T false 65 [(0,.str p[a.toNat].name),(1,.str f.name),(2,av)]=some (.agg [.str p[a.toNat].name,.str f.name,av]):=GX _ _ _ ok1;have hBS:=Ee (.agg [.str p[a.toNat].name,.str f.name,av]) rfl;have lc1:∀g:AV->M AV,ah (bC T 24 (.hp 0 10)) g h=g cv h:=lc;simp -implicitDefEqProofs only[lc,lm,hi,bN,FA43_0,FH135_0,FH135_4,FH60_3,aaZ,LD9,ai,aa7,Nat.reduceAdd]at hcode;rw[bM c1]at hcode;simp only[hB,hBS,ai]at hcode
   grind [bM]
  ·simp only[hp,aaK,aaR]at hcode tail;rw[<- hcode];exact tail m h ⟨tag,dv,cv,sv,R0⟩ rfl h60
 ·rw[nO,aaC h60];have hd:decide (m.frames<60)=false:=by simpa using h60
  simp only[hd,de,aaK,aaR]at hcode;rw[<- hcode];exact⟨h,rfl,tag,dv,cv,sv,R0⟩
end Go.Proofs.YtkkdcdofponfiaaGreat
