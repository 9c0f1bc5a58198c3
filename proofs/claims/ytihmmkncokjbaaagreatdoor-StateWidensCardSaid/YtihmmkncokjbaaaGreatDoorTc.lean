/- What the functions compute, part 3. Conditions: bounds. -/
import Derived.Test.YtihmmkncokjbaaaGreatDoorTb
import Derived.Test.YtihmmkncokjbaaaGreatDoorRows
import Derived.Lib.LaidTab
import Derived.Stop.LaidErr
import Derived.Shelf.Vars
import Derived.ProofKit
import Derived.Deep.DeepHandedRow
import Derived.Deep.DeepWitnessRowRef
import Derived.Deep.DeepLaidRun
set_option linter.defProp false
set_option linter.unusedSimpArgs false
set_option linter.unusedVariables false
namespace Go.Proofs.YtihmmkncokjbaaaGreatDoor
open Go Go.Av Go.Av.Sw Go.RowKit Go.Lib
set_option maxRecDepth 100000
def row_of{S:ap}{β:List aZ}{w:World}{h:Hp}(hh:a7 S β w h){l:Nat}{cs:List AV}(hl:h[l]? = some cs)(hne:cs≠[]){q:aZ}(hq:β[l]? = some q)(hq0:q.2≠0):
  ∃x t,w.heap[q.1]? = some (.cells x t (0,0))/\x.size=q.2/\aP S β cs (x.toList.take cs.length)/\∀o,S q.1 o=none:=by
 obtain⟨hlen,ω,hr⟩:=hh;rcases hr l cs hl hne with⟨b,x,k1,⟨t,k2⟩,k3,k4,k5,_⟩|⟨b,k1,_⟩
 ·rw[hq]at k1;simp only[F7]at k1;subst k1;exact⟨x,t,k2,rfl,k4,k5⟩
 ·rw[hq]at k1;simp only[F7]at k1;subst k1;exact absurd rfl hq0
def se{S:ap}{β:List aZ}{w:World}{h:Hp}(hh:a7 S β w h){l m:Nat}{cs ds:List AV}(hl:h[l]? = some cs)(hne:cs≠[])(hm:h[m]? = some ds)(hnm:ds≠[]){q r:aZ}(hq:β[l]? = some q)(hr:β[m]? = some r)(hlm:l≠m):r.1≠q.1:=by
 obtain⟨hlen,ω,hR⟩:=hh;obtain⟨b,n,k1,_,k2,_⟩:=hR.own hl hne;obtain⟨b',n',k1',_,k2',_⟩:=hR.own hm hnm;rw[hq]at k1;rw[hr]at k1';cases k1;cases k1';intro hh;simp only at hh;rw[hh,k2]at k2';exact hlm (by cases k2';rfl)
def tD{α:Type}(l:List α)(q:α){n:Nat}(h:l.length=n):(l++[q])[n]? = some q:=by subst h;rw[Gn (Ga _),Hq];rfl
def qX(w:World)(o:Obj):(w.alloc o).heap.size=w.heap.size+1:=Array.size_push _
def mg{α:Type}(l:List α){k n:Nat}(h:k<=n):(l.take n).take k=l.take k:=by rw[HF,Hu h]
def nC{w w':World}(hs:w.heap.size<=w'.heap.size)(h:uR w w'):Gro w w':=⟨hs,h.1,h.2.1,h.2.2.1,fun _=>h.2.2.2⟩
def Bw(call:FuncId->List AV->M AV)(args:List AV)(h:Hp)(S:ap)(β:List aZ)(w:World)(vs:List Value)(hr:rK call args h≠.fail)(_hg:kz S β h w)(hw:Wf S w)(hh:a7 S β w h)(hv:aP S β args vs):
  Calls Tryz.prog 116 vs.toArray w (bS none S β h w (rK call args h)):=by
 have hlen:=hh.1;unfold rK at hr |-;split at hr
 case h_2=>exact absurd rfl hr
 rename_i s i lv;simp only[aP]at hv;obtain⟨v0,r0,rfl,hv0,v1,r1,rfl,hv1,v2,r2,rfl,hv2,rfl⟩:=hv;simp only[VR]at hv1 hv2;subst hv1;cases hlv:h[lv]? with
 |none=>rw[hlv]at hr;exact absurd rfl hr
 | some vx=>
  rw[hlv]at hr;simp only at hr |-;cases hc:(decide (3<=vx.length)&&(vx.take 3).all aE)with
  |false=>rw[hc]at hr;exact absurd rfl hr
  | true =>
   rw[hc]at hr;simp only[F9]at hr |-;simp only[F8,Ge]at hc;obtain⟨hv3,hvo⟩:=hc;have hvne:vx≠[]:=fun hh=>by rw[hh]at hv3;simp at hv3
   obtain⟨q,vc,hq,hq0,rfl,hvc1,hvc⟩:∃(q:aZ)(vc:Nat),β[lv]? = some q/\q.2≠0/\v2= .slice (some ⟨q.1,0,none⟩) 1 vc/\1<=vc/\0+vc*3<=q.2:=by
    rcases hv2 with⟨q,vc,a1,a2,a3,a4,a5⟩|⟨a1,_⟩
    ·exact⟨q,vc,a1,a2,a3,a4,a5⟩
    ·cases a1
   obtain⟨vxx,tv,hvrow,hvs,hvV,hvN⟩:=row_of hh hlv hvne hq hq0;have hvx3:3<=vxx.size:=by omega
   have hvV3:aP S β (vx.take 3) (vxx.toList.take 3):=by
    have:=hvV.take 3
    rwa [mg _ hv3]at this
   have h1v:=qq hvV3 hvo;have hvl3:(vx.take 3).length=3:=by rw[Gl];omega
   -- a new row
   have fin:∀(n:Nat)(cs:List AV)(csv:List Value),aP S β cs csv->cs.all aE=true->cs.length=3*(n+1)->∀(h':Hp),(h'=h++[cs]\/∃l ds q,h[l]? = some ds/\ds≠[]/\β[l]? = some q/\h'=h.set l []++[cs])->
     ∀e w',qU w n csv e w'->bS none S β h w (.ok (.hs h.length 0 (n+1) 3 true) h') e w':=by
    rintro n cs csv hV ho hl h' hh' e w' ⟨cap,z,rfl,c1,c2,c3,c4⟩;have hrow:w'.heap[w.heap.size]? = some (.cells (csv++z).toArray 37 (0,0)):=by rw[c3];exact alloc_at w _
    have hold:∀k,k<w.heap.size->w'.heap[k]? = w.heap[k]?:=fun k hk=>by
     rw[c3];simp only[World.alloc,Iq];rw[if_neg (by omega)]
    have hcl:csv.length=cs.length:=hV.length;have hnew:aP S β cs ((csv++z).toArray.toList.take cs.length):=by
     show aP S β cs ((csv++z).take cs.length);rw[<- hcl,Iu];exact hV
    have htag:=fun t'=>fp ho t';have hgro:Gro w w':=nC (by rw[c3,qX];exact Iw _) c4;have hsz:(csv++z).toArray.size=(csv++z).length:=Hm;refine⟨S,β++[(w.heap.size,(csv++z).toArray.size)],_,rfl,?_,⟨ap.le_refl S,gt β _,?_,hgro,fun b hb _=>⟨hold b hb,fun _=>rfl⟩,?_,fun b hb=>?_⟩,fun _ hh=>by cases hh⟩
    ·simp only[VR];refine .inl ⟨(w.heap.size,(csv++z).toArray.size),cap,tD β _ hlen,?_,rfl,c1,by rw[hsz];omega⟩;rw[hsz,Gf,hcl,hl];omega
    ·intro b o v hv;have hlt:=hw.lt hv;rw[cell_of_heap (hold b hlt)];exact hw b o v hv
    ·rcases hh' with rfl|⟨l,ds,q',h1,h2,h3,rfl⟩
     ·exact FY hh hw hold (Ga _) hrow hnew htag
     ·exact a7.move hh hw h1 h2 h3 (fun k hk _=>hold k hk) (.inr (Ga _)) hrow hnew htag
    ·rcases hh' with rfl|⟨l,ds,q',h1,h2,h3,rfl⟩
     ·rcases gR hlen hb with hb|hb
      ·exact .inl hb
      ·exact .inr (by rw[hb];exact Ga _)
     ·rcases nc hlen hb with hb|hb
      ·exact .inl hb
      ·exact .inr (by rw[hb];exact Ga _)
   split at hr
   ·-- nil
    simp only[VR]at hv0;subst hv0;cases hi:decide (i=0)with
    |false=>rw[hi]at hr;exact absurd rfl hr
    |true=>
     simp only[Ge]at hi;subst hi;refine (km w none q.1 0 0 vc [] vxx tv (fun a ha=>by cases ha) (fun _=>rfl) rfl hvrow (Ga _) (by omega) hvx3 (by omega) h1v).mono fun e w' hN=>?_;exact fin 0 (vx.take 3) _ hvV3 hvo hvl3 _ (.inl rfl) e w' hN
   ·rename_i l n;cases hl:h[l]? with
    |none=>rw[hl]at hr;exact absurd rfl hr
    | some cs=>
     rw[hl]at hr;simp only at hr |-;cases hk:(decide (0<=i)&&decide (i<=n)&&decide (n<=1000)&&decide (0<n)&&decide (cs.length=3*n)&&cs.all aE&&!(Nat.beq l lv))with
     |false=>rw[hk]at hr;exact absurd rfl hr
     | true=>
      simp only[F9];simp only[F8,Ge,GW]at hk;obtain⟨⟨⟨⟨⟨⟨k0,k1⟩,k2⟩,k3⟩,k4⟩,k5⟩,k6⟩:=hk;have hlm:l≠lv:=fun hh=>by rw[hh,Il]at k6;cases k6
      have hne:cs≠[]:=fun hh=>by rw[hh]at k4;simp at k4;omega
      simp only[VR]at hv0;obtain⟨p,c,hp,hp0,rfl,hnc,hpc⟩:∃(p:aZ)(c:Nat),β[l]? = some p/\p.2≠0/\v0= .slice (some ⟨p.1,0,none⟩) n c/\n<=c/\0+c*3<=p.2:=by
       rcases hv0 with⟨q,vc,a1,a2,a3,a4,a5⟩|⟨a1,_⟩
       ·exact⟨q,vc,a1,a2,a3,a4,a5⟩
       ·omega
      obtain⟨x,tb,hrow,hxs,hxV,hxN⟩:=row_of hh hl hne hp hp0;have hap:q.1≠p.1:=se hh hl hne hlv hvne hp hq hlm;obtain⟨j,rfl⟩:∃j:Nat,i=j:=⟨i.toNat,by omega⟩;simp only[G6];have hj:j<=n:=by omega
      rw[k4]at hxV;have h1x:=qq hxV k5;have hV:aP S β (cs.take (3*j)++vx.take 3++cs.drop (3*j)) (iD n j x.toList vxx.toList):=by
       unfold iD;refine (aP.append ?_ hvV3).append ?_
       ·have:=hxV.take (3*j)
        rwa [mg _ (by omega)]at this
       ·exact hxV.drop (3*j)
      have hO:(cs.take (3*j)++vx.take 3++cs.drop (3*j)).all aE=true:=by
       rw[IU,IU,hvo];rw[Gk]at k5;simp only[HU,F8,Gk];exact⟨fun a ha=>k5 a (Hg ha),fun a ha=>k5 a (Hh ha)⟩
      have hL:(cs.take (3*j)++vx.take 3++cs.drop (3*j)).length=3*(n+1):=by
       rw[Gf,Gf,hvl3,Gl,Hc];omega
      -- in its own row
      have inp:∀(e:Ending)(w':World)(x':Array Value),e= .returned (.slice (some ⟨p.1,0,none⟩) (n+1) c)->n+1<=c->(∀k,k≠p.1->w'.heap[k]? = w.heap[k]?)->w'.heap[p.1]? = some (.cells x' tb (0,0))->w'.heap.size=w.heap.size->x'.size=x.size->x'.toList.take (3*(n+1))=iD n j x.toList vxx.toList->uR w w'->
        bS none S β h w (.ok (.hs h.length 0 (n+1) 3 true) (h.set l []++[cs.take (3*j)++vx.take 3++cs.drop (3*j)])) e w':=by
       rintro e w' x' rfl d0 d1 d2 d3 d4 d5 d6;have hpo:a8 β h p.1:=⟨l,cs,p.2,hl,hne,hp⟩;refine⟨S,β++[(p.1,x'.size)],_,rfl,?_,⟨ap.le_refl S,gt β _,?_,nC (by omega) d6,fun b hb hE=>?_,?_,fun b hb=>?_⟩,fun _ hh=>by cases hh⟩
       ·simp only[VR];exact .inl ⟨(p.1,x'.size),c,tD β _ hlen,by simp only;omega,rfl,d0,by simp only;omega⟩
       ·intro b o v hv;by_cases hb:b=p.1
        ·rw[hb,hxN o]at hv;cases hv
        ·rw[cell_of_heap (d1 b hb)];exact hw b o v hv
       ·exact⟨d1 b (fun hb'=>hE (by rw[hb'];exact hpo)),fun _=>rfl⟩
       ·exact a7.move hh hw hl hne hp (fun k _ hk=>d1 k hk) (.inl rfl) d2 (by rw[hL,d5];exact hV) (fun t'=>fp hO t')
       ·rcases nc hlen hb with hb|hb
        ·exact .inl hb
        ·exact .inl (by rw[hb];exact hpo)
      by_cases hroom:n+1<=c
      ·by_cases hjn:j=n
       ·subst hjn;refine (yA w p.1 q.1 j c vc x vxx tb tv hrow hvrow hroom (by omega) hvx3 (by omega) h1v).mono ?_;rintro e w' ⟨he,x',rfl,a1,a2⟩;exact inp e _ x' he hroom (fun k hk=>eR _ _ _ hk) (g7 _ _ _ x tb hrow) (setRow_size _ _ _) a1 a2 ⟨rfl,rfl,rfl,Ga _⟩
       ·refine (uk w p.1 q.1 n c j vc x vxx tb tv hrow hvrow hap (by omega) hroom (by omega) hvx3 (by omega) h1x h1v).mono ?_;rintro e w' ⟨he,x',rfl,a1,a2⟩;exact inp e _ x' he hroom (fun k hk=>eR _ _ _ hk) (g7 _ _ _ x tb hrow) (setRow_size _ _ _) a1 a2 ⟨rfl,rfl,rfl,Iw _⟩
      ·by_cases hjn:j=n
       ·subst hjn;refine (km w (some ⟨p.1,0,none⟩) q.1 j c vc (x.toList.take (3*j)) vxx tv (fun a ha=>by
         cases ha;refine⟨rfl,fun k v hk=>?_⟩;rw[Addr.add_lit];rw[Gj]at hk;split at hk
         ·simp only[World.cell?,hrow];rw[<- Gv,GE];exact hk
         ·cases hk) (fun hh=>by cases hh) (by rw[Gl,Gs];omega) hvrow hnc (by omega) hvx3 (by omega) h1v).mono fun e w' hN=>?_
        rw[<- pZ]at hN;exact fin j _ _ hV hO hL _ (.inr ⟨l,cs,p,hl,hne,hp,rfl⟩) e w' hN
       ·refine (yB w p.1 q.1 n c j vc x vxx tb tv hrow hvrow hap (by omega) hnc (by omega) (by omega) hvx3 (by omega) h1x h1v).mono fun e w' hN=>?_;exact fin n _ _ hV hO hL _ (.inr ⟨l,cs,p,hl,hne,hp,rfl⟩) e w' hN
   ·exact absurd rfl hr
end Go.Proofs.YtihmmkncokjbaaaGreatDoor
namespace Go.Proofs.YtihmmkncokjbaaaGreatDoor
open Go Go.Av Go.RowKit
set_option maxRecDepth 100000
def E9{α:Type}{f k:Nat}{x:α}{o:Option α}{y:α}(h:(bif Nat.beq f k then some x else o)=some y):(f=k/\x=y)\/o=some y:=by
 cases hb:Nat.beq f k with
 |true=>rw[hb]at h;exact .inl ⟨Gh hb,by simpa using h⟩
 |false=>rw[hb]at h;exact .inr h
def vI{α:Type}{f k:Nat}{x y:α}{o:Option α}{P:Prop}(h1:f=k->x=y->P)(h2:o=some y->P)(h:(bif Nat.beq f k then some x else o)=some y):P:=(E9 h).elim (fun h=>h1 h.1 h.2) h2
def Fg:GoodPg Tryz.prog pg where
 tok:=tok
 funcs:=wo
 other:=by
  intro f E hE call hC args h S β w vs hr hg hw hh hv;have h0:other f=some E:=hE;unfold other at h0;revert h0
  repeat' refine vI ?_ ?_
  all_goals first
   |(intro h0;cases h0;done)
   |(rintro rfl rfl;exact absurd rfl hr)
   |(rintro rfl rfl;exact⟨DT call hC args h S β w vs hr hg hw hh hv,by kernel_rfl⟩)
   |(rintro rfl rfl;exact⟨DU call args h S β w vs hr hg hw hh hv,by kernel_rfl⟩)
   |(rintro rfl rfl;exact⟨DV call args h S β w vs hr hg hw hh hv,by kernel_rfl⟩)
   |(rintro rfl rfl;exact⟨DW call args h S β w vs hr hg hw hh hv,by kernel_rfl⟩)
   |(rintro rfl rfl;exact⟨BP call hC args h S β w vs hr hg hw hh hv,by kernel_rfl⟩)
   |(rintro rfl rfl;exact⟨Bz call args h S β w vs hr hg hw hh hv,by kernel_rfl⟩)
   |(rintro rfl rfl;exact⟨BA call args h S β w vs hr hg hw hh hv,by kernel_rfl⟩)
   |(rintro rfl rfl;exact⟨BC call args h S β w vs hr hg hw hh hv,by kernel_rfl⟩)
   |(rintro rfl rfl;exact⟨BD call args h S β w vs hr hg hw hh hv,by kernel_rfl⟩)
   |(rintro rfl rfl;exact⟨BE call args h S β w vs hr hg hw hh hv,by kernel_rfl⟩)
   |(rintro rfl rfl;exact⟨Bv call args h S β w vs hr hg hw hh hv,by kernel_rfl⟩)
   |(rintro rfl rfl;exact⟨Bw call args h S β w vs hr hg hw hh hv,by kernel_rfl⟩)
 nw:=by
  intro f hf;have h0:(bif Nat.beq f 249 then true else false)=true:=hf;cases hb:Nat.beq f 249 with
  |true=>
   have:=Gh hb
   subst this;exact⟨_,rfl,fun call args=>tX _ _ _ _⟩
  |false=>rw[hb]at h0;cases h0
end Go.Proofs.YtihmmkncokjbaaaGreatDoor
namespace Go.Proofs.YtihmmkncokjbaaaGreatDoor
open Go Go.Av Go.ChangeShapes Go.WideShapes Go.ChangeAt Go.RowKit
set_option maxRecDepth 1000000
def Fj:ownKnob Tryz.prog.godebug=none:=by kernel_rfl
def star: "*" ++ "errors.errorString" = "*errors.errorString" :=by decide
def l8(u:TypeId)(h:Tryz.prog.typeName? 3 u=some "*errors.errorString"):u=272:=
 typeName_ptr_named (nm:= "errors.errorString") (by rw[star];kernel_rfl) (by kernel_rfl) (by decide) u (by rw[star];exact h)
def Bc{W:World}(hL:laidMetH Tryz.prog Rows.stateStaysRow.laid W)(hS:W.ShapedOpen Tryz.prog):GOKw W:=by
 have h0:laidMet Tryz.prog Rows.stateStaysRow.laid W:=hL;have h1:=h0.tail;have h2:=h1.tail;have h3:=h2.tail;have h4:=h3.tail;have hp:=Lib.tabIs_of_head (k:=.u64) (zs:=Lib.pow10Tab) (g:=0) (t:=244) (e:=206) (n:=20) (by kernel_rfl) (by kernel_rfl) (by kernel_rfl) (by kernel_rfl) (by kernel_rfl) (by kernel_rfl) h2;obtain⟨a0,s0,v0,_⟩:=laid_sentinel (g:=3) (ti:=124) (tp:=272) (te:=274) (ts:=9) h3 (by kernel_rfl) (by kernel_rfl) Tryz.underlying124 l8 Tryz.underlying272 Tryz.underlying274 rfl rfl Tryz.underlying9 (by kernel_rfl) (by kernel_rfl);obtain⟨a1,s1,v1,_⟩:=laid_sentinel (g:=2) (ti:=124) (tp:=272) (te:=274) (ts:=9) h4 (by kernel_rfl) (by kernel_rfl) Tryz.underlying124 l8 Tryz.underlying272 Tryz.underlying274 rfl rfl Tryz.underlying9 (by kernel_rfl) (by kernel_rfl);have hvar:∀ {name:String} {g:Nat} {cs:Array Value},Tryz.prog.globalNamed name=some g->W.var? Tryz.prog name=some cs->∃t fr,W.heap[g]? = some (.cells cs t fr):=by
  intro name g cs hn hv;unfold World.var? at hv;rw[hn]at hv;simp only[HQ]at hv;split at hv
  ·rename_i c t fr hh;simp only[F7]at hv;subst hv;exact⟨t,fr,hh⟩
  ·cases hv
 have hcell:∀ {g:Nat} {v:Value},(∃t fr,W.heap[g]? = some (.cells #[v] t fr))->W.cell? ⟨g,0,none⟩=some v:=by
  rintro g v ⟨t,fr,hh⟩;simp[World.cell?,hh]
 refine⟨?_,hvar (by kernel_rfl) hp,⟨_,_,hcell (hvar (by kernel_rfl) v1)⟩,⟨_,_,hcell (hvar (by kernel_rfl) v0)⟩⟩;exact cell_of_shapedOpen_int (zero:=#[.int .i64 0]) (t:=3) hS (HD (by kernel_rfl)) (by kernel_rfl) rfl (by kernel_rfl) (by kernel_rfl) Tryz.underlying3
mutual
def iP:DataW Unit->List Value
 |.lit (.bool b)=>[.bool b]
 |.lit (.int k n)=>[.int k n]
 |.lit (.string s)=>[.string ⟨s.toArray⟩]
 |.agg ps=>vV ps
 |_=>[]
def vV:List (DataW Unit)->List Value
 |[]=>[]
 |d:: ds=>iP d++vV ds
end
abbrev Fp:ByteArray:={ data:=#[105,110,118,97,108,105,100,32,115,121,110,116,97,120] }
abbrev Fo:ByteArray:={ data:=#[118,97,108,117,101,32,111,117,116,32,111,102,32,114,97,110,103,101] }
noncomputable def low:Nat:=(World.holding Tryz.prog default ⟨#[],#[],[]⟩).heap.size
noncomputable def xw:List (Option (Array Value)):=[some (iP Rows.laid_internal_strconv_uint64pow10).toArray,none,some #[.iface 272 (.pointer (some ⟨low,0,none⟩))],some #[.iface 272 (.pointer (some ⟨low+1,0,none⟩))],
 some (iP Rows.laid_math_bits_deBruijn32tab).toArray,some (iP Rows.laid_math_bits_deBruijn64tab).toArray]
def oH:List Obj->List (Option (Array Value))->List Obj
 |.cells _ t fr:: os,some c:: cs=>.cells c t fr:: oH os cs
 |o:: os,_:: cs=>o:: oH os cs
 |os,[]=>os
 |[],_=>[]
noncomputable def jE(os:Os):World:=
 let w0:=World.holding Tryz.prog os ⟨#[.cells #[.string Fp] 274,.cells #[.string Fo] 274],#[],[]⟩
 { w0 with heap:=(oH w0.heap.toList xw).toArray }
def wE(os:Os)(args:Array Value):laidMet Tryz.prog Rows.stateStaysRow.laid ((jE os).forCall (fun _ _=>0) ⟨#[],args,[]⟩).memory:=
 laidMet_of_run3 8 (by kernel_rfl) (by kernel_rfl) (by kernel_rfl)
end Go.Proofs.YtihmmkncokjbaaaGreatDoor
namespace Go.Proofs.YtihmmkncokjbaaaGreatDoor
open Go Go.Av Go.Av.Ap Go.RowKit
set_option maxRecDepth 1000000
section
variable {H:Type} {enc:TypeId×Value->H} {W:World}
theorem l6:reachBytes=140737488351232:=rfl
theorem Ty.lim_mk{k:Int}{fs:List bv}(h2:fs.length<=140737488355328)(h3:∀v∈fs,v.2.Lim):(Ty.mk k fs).Lim:=fun j=>match j with
 |0=>trivial
 |j+1=>⟨h2,fun x hx=>h3 x hx j⟩
theorem r7{N:Nat}(h:Rd enc Tryz.prog W N 35 (fun v:Ty=>v.cells) Ty.Lim):Rd enc Tryz.prog W (N+1) 23 (fun l:List bv=>[be l]) (fun l=>l.length<=140737488355328/\∀v∈l,v.2.Lim):=
 (l5 ((jL Tryz.underlying37 (by kernel_rfl) (dz (wW Tryz.underlying9) rfl (by kernel_rfl:_=1) (dz h rfl (by kernel_rfl:_=2) l4))).map (fun x=>((x.1,x.2.1):bv)) (cells':=fun f=>ae (bX f)) (Ok':=fun f=>f.2.Lim) (fun x=>by simp[Ty.cells_eq]) (fun x h=>h.2.1))
  Tryz.underlying23 (by kernel_rfl:_=3) (by decide) (by kernel_rfl:_=48) (ev:=bX) (mX fun v=>by rw[dB];rfl)).map id (fun l=>by simp[be,dm]) (fun l h=>⟨by have:=h.1;rw[l6]at this;simp only[id];omega,h.2⟩)
theorem wX:∀N,Rd enc Tryz.prog W N 35 (fun v:Ty=>v.cells) Ty.Lim
 |0=>.zero
 | N+1=>(jL Tryz.underlying35 (by kernel_rfl) (dz (r8 Tryz.underlying3) rfl (by kernel_rfl:_=1) (dz ((r7 (wX N)).le (Iw N)) rfl (by kernel_rfl:_=1) l4))).map (fun x=>Ty.mk x.1 x.2.1)
   (fun x=>by simp[Ty.cells_eq,Ty.kind,Ty.fields]) (fun x h=>Ty.lim_mk h.2.1.1 h.2.1.2)
end
end Go.Proofs.YtihmmkncokjbaaaGreatDoor
namespace Go.Proofs.YtihmmkncokjbaaaGreatDoor
open Go Go.Av Go.Av.Ap Go.RowKit
set_option maxRecDepth 1000000
section
variable {H:Type} {enc:TypeId×Value->H} {W:World}
theorem y6(N:Nat):Rd enc Tryz.prog W N 22 (fun l:List bO=>[strs l]) (fun l=>l.length<=8796093022208):=
 (l5 (wW Tryz.underlying9) Tryz.underlying22 (by kernel_rfl:_=1) (by decide) (by kernel_rfl:_=16) (vW fun _=>rfl)).map id (fun _=>rfl) (fun l h=>by have:=h.1;rw[l6]at this;simp only[id];omega)
theorem Exp.lim_mk{o n:Int}{s m:bO}{ns:List bO}{es:List Exp}(h1:ns.length<=8796093022208)(h2:es.length<=140737488355328)(h3:∀v∈es,v.Lim):(Exp.mk o n s m ns es).Lim:=fun j=>match j with
 |0=>trivial
 |j+1=>⟨h1,h2,fun x hx=>h3 x hx j⟩
end
end Go.Proofs.YtihmmkncokjbaaaGreatDoor
namespace Go.Proofs.YtihmmkncokjbaaaGreatDoor
open Go Go.Av Go.Av.Ap Go.RowKit
set_option maxRecDepth 1000000
def uU(v:Val):Prop:=v.Lim/\tG v
def zh{k n:Int}{ns:List bO}{vs:List Val}(h0:-9223372036854775808<=n/\n<=9223372036854775807)(h1:ns.length<=140737488355328)(h2:vs.length<=140737488355328)(h3:∀v∈vs,uU v):uU (Val.mk k n ns vs):=
 ⟨fun j=>match j with
  |0=>trivial
  |j+1=>⟨h1,h2,fun x hx=>(h3 x hx).1 j⟩,(wz _).2 ⟨h0,fun x hx=>(h3 x hx).2⟩⟩
section
variable {H:Type} {enc:TypeId×Value->H} {W:World}
theorem qz{N:Nat}(h:Rd enc Tryz.prog W N 45 (fun v:Val=>ae v.av) uU):Rd enc Tryz.prog W N 30 (fun l:List Val=>[vals l]) (fun l=>l.length<=140737488355328/\∀v∈l,uU v):=
 (l5 h Tryz.underlying30 (by kernel_rfl:_=4) (by decide) (by kernel_rfl:_=64) (ev:=Val.av) (mX fun v=>by rw[v.av_eq];rfl)).map id (fun l=>by simp[vals,eS]) (fun l h=>⟨by have:=h.1;rw[l6]at this;simp only[id];omega,h.2⟩)
theorem tw:∀N,Rd enc Tryz.prog W N 45 (fun v:Val=>ae v.av) uU
 |0=>.zero
 | N+1=>(jL Tryz.underlying45 (by kernel_rfl) (dz (r8 Tryz.underlying3) rfl (by kernel_rfl:_=1) (dz (r8 Tryz.underlying3) rfl (by kernel_rfl:_=1) (dz (y6 N) rfl (by kernel_rfl:_=1)
   (dz (qz (tw N)) rfl (by kernel_rfl:_=1) l4))))).map (fun x=>Val.mk x.1 x.2.1 x.2.2.1 x.2.2.2.1) (fun x=>by simp[Val.av_eq,ae]) (fun x h=>zh (bounds_i64 h.2.1) (by have:=h.2.2.1;omega) h.2.2.2.1.1 h.2.2.2.1.2)
end
end Go.Proofs.YtihmmkncokjbaaaGreatDoor
namespace Go.Proofs.YtihmmkncokjbaaaGreatDoor
open Go Go.Av Go.Av.Ap
set_option maxRecDepth 100000
noncomputable section
abbrev EE(k:Nat)(fn:Go.Func)(g:Ann)(l:List AV)(S:CC->cQ AV->M AV):Prop:=∀call fx,bN (pg.cx call fn.ntmps g) fx fn (own k) l=S call fx
def S20(call:CC)(fx:cQ AV)(a0 a1:AV):M AV:=af (aj (am T 35 (.ip (ae a0)))) fun a=>af (call 23 [a]) fun b=>af (ax b true 1 (af (aj (am T 45 (.ip (ae a1)))) fun c=>af (call 49 [c]) fun d=>aw [d])) fun e=>af (aj (aV b (ah e 0) (.bool false))) fun f=>af (ax f true 1 (af (aj (am T 35 (.ip (ae a0)))) fun g=>af (aj (am T 45 (.ip (ae a1)))) fun h=>af (call 55 [g,h]) fun i=>aw [i])) fun j=>af (aj (aV f (ah j 0) (.bool false))) fun k=>aw k
def E20(a0 a1:AV):EE 20 Tryz.f20 zp [a0,a1] (fun c x=>S20 c x a0 a1):=fun _ _=>by kernel_rfl
def C20(a0 a1:AV):ai pg 20 [a0,a1]=aX (S20 (ai pg) au (cl aB a0) (cl aB a1)):=(aD aW rfl rfl rfl _).trans (Gb aX (E20 (cl aB a0) (cl aB a1) _ _))
def L48_0(call:CC)(fx:cQ AV)(a:RR)(b:List AV):M AV:=af (aj (aa T 35 (ah b 2) 1)) fun c=>af (aj (am T 23 c)) fun d=>af (aj (bq T 23 d)) fun e=>af (aj (az T .lss 3 (ah b 4) e)) fun f=>af (ax f true 1 (af (aj (az T .leq 3 (ah b 3) (ah b 0))) fun g=>aw [g])) fun h=>af (aj (aV f (ah h 0) (.bool false))) fun i=>aF i (af (aj (aa T 35 (ah b 2) 1)) fun j=>af (aj (am T 23 j)) fun k=>af (aj (ay T 23 k (ah b 4))) fun l=>af (aj (aa T 37 l 0)) fun m=>af (aj (am T 9 m)) fun n=>af (aj (bq T 9 n)) fun o=>af (aj (az T .gtr 3 o (.int .i64 60))) fun p=>aF p (af (aj (az T .add 3 (ah b 0) (.int .i64 1))) fun q=>aw q) (af (aj (aa T 35 (ah b 2) 1)) fun r=>af (aj (am T 23 r)) fun s=>af (aj (ay T 23 s (ah b 4))) fun u=>af (aj (aa T 37 u 1)) fun v=>af (aj (am T 35 v)) fun w=>af (aj (az T .sub 3 (ah b 0) (ah b 3))) fun x=>af (aj (az T .sub 3 (ah b 1) (.int .i64 1))) fun y=>af (call 48 [w,x,y]) fun z=>af (aj (az T .add 3 (ah b 3) z)) fun A=>af (aj (az T .add 3 (ah b 4) (.int .i64 1))) fun B=>a [ah b 0,ah b 1,ah b 2,A,B])) (aw (ah b 3))
def XL48_0{call:CC}:dt (L48_0 call au) fun _n=>L48_0 call au  :=by
 intro a b c d;unfold L48_0;exact (by(iterate 6 refine lb fun _=>?_);exact (aN (by(iterate 7 refine lb fun _=>?_);exact (aN (bu _) (by(iterate 10 refine lb fun _=>?_);exact (c _)))) (bu _)))
def FL48_0(call:CC)(vs:List AV):au (L48_0 call au) vs=L48_0 call au  (au (L48_0 call au)) vs:=cB (XL48_0) vs
def S48(call:CC)(fx:cQ AV)(a0 a1 a2:AV):M AV:=af (aj (az T .lss 3 a2 (.int .i64 1))) fun a=>af (ax a false 1 (af (aj (aa T 35 (.ip (ae a0)) 1)) fun b=>af (aj (am T 23 b)) fun c=>af (aj (bq T 23 c)) fun d=>af (aj (az T .gtr 3 d (.int .i64 12))) fun e=>aw [e])) fun f=>af (aj (aV a (.bool true) (ah f 0))) fun g=>aF g (af (aj (az T .add 3 a1 (.int .i64 1))) fun h=>aw h) (fx (L48_0 call fx) [a1,a2,.ip (ae a0),.int .i64 1,.int .i64 0])
def E48(a0 a1 a2:AV):EE 48 Tryz.f48 zw [a0,a1,a2] (fun c x=>S48 c x a0 a1 a2):=fun _ _=>by kernel_rfl
def C48(a0 a1 a2:AV):ai pg 48 [a0,a1,a2]=aX (S48 (ai pg) au (cl aB a0) (cl aB a1) (cl aB a2)):=(aD aW rfl rfl rfl _).trans (Gb aX (E48 (cl aB a0) (cl aB a1) (cl aB a2) _ _))
def S111(call:CC)(fx:cQ AV)(a0 a1:AV):M AV:=af (aj (aa T 35 a1 1)) fun a=>af (aj (am T 23 a)) fun b=>af (aj (aa T 37 (.ip (ae a0)) 0)) fun c=>af (aj (am T 9 c)) fun d=>af (call 112 [b,d]) fun e=>af (aj (bh e 0)) fun f=>af (aj (bh e 1)) fun g=>af (bn 2 f) fun h=>af (aj (iq UnOp.not g)) fun i=>af (ax i false 1 (af (aj (am T 35 (.ip (ae h)))) fun j=>af (aj (aa T 37 (.ip (ae a0)) 1)) fun k=>af (aj (am T 35 k)) fun l=>af (call 72 [j,l]) fun m=>af (aj (iq UnOp.not m)) fun n=>aw [n])) fun o=>af (aj (aV i (.bool true) (ah o 0))) fun p=>aw p
def E111(a0 a1:AV):EE 111 Tryz.f111 uX [a0,a1] (fun c x=>S111 c x a0 a1):=fun _ _=>by kernel_rfl
def C111(a0 a1:AV):ai pg 111 [a0,a1]=aX (S111 (ai pg) au (cl aB a0) (cl aB a1)):=(aD aW rfl rfl rfl _).trans (Gb aX (E111 (cl aB a0) (cl aB a1) _ _))
def L164_0(call:CC)(fx:cQ AV)(a:RR)(b:List AV):M AV:=af (aj (az T .lss 3 (ah b 3) (ah b 2))) fun c=>aF c (af (aj (ay T 30 (ah b 0) (ah b 3))) fun d=>af (aj (am T 45 d)) fun e=>af (bJ call (ah b 1) [e]) fun f=>aF f (aw (ah b 3)) (af (aj (az T .add 3 (ah b 3) (.int .i64 1))) fun g=>a [ah b 0,ah b 1,ah b 2,g])) (aw (.int .i64 (-1)))
def XL164_0{call:CC}:dt (L164_0 call au) fun _n=>L164_0 call au  :=by
 intro a b c d;unfold L164_0;exact (lb fun _=>(aN (lb fun _=>(lb fun _=>(lb fun _=>(aN (bu _) (lb fun _=>c _))))) (bu _)))
def FL164_0(call:CC)(vs:List AV):au (L164_0 call au) vs=L164_0 call au  (au (L164_0 call au)) vs:=cB (XL164_0) vs
def S164(call:CC)(fx:cQ AV)(a0 a1:AV):M AV:=af (aj (bq T 30 a0)) fun a=>fx (L164_0 call fx) [a0,a1,a,.int .i64 0]
def E164(a0 a1:AV):EE 164 Tryz.f164 vl [a0,a1] (fun c x=>S164 c x a0 a1):=fun _ _=>by kernel_rfl
def C164(a0 a1:AV):ai pg 164 [a0,a1]=aX (S164 (ai pg) au (cl aB a0) (cl aB a1)):=(aD aW rfl rfl rfl _).trans (Gb aX (E164 (cl aB a0) (cl aB a1) _ _))
def L206_0(call:CC)(fx:cQ AV)(a:RR)(b:List AV):M AV:=af (aj (bq T 9 (ah b 0))) fun c=>af (aj (az T .lss 3 (ah b 2) c)) fun d=>af (ax d true 1 (af (aj (dM T 9 (ah b 0) (ah b 2))) fun e=>af (bJ call (ah b 1) [e]) fun f=>aw [f])) fun g=>af (aj (aV d (ah g 0) (.bool false))) fun h=>aF h (af (aj (az T .add 3 (ah b 2) (.int .i64 1))) fun i=>a [ah b 0,ah b 1,i]) (aw (ah b 2))
def XL206_0{call:CC}:dt (L206_0 call au) fun _n=>L206_0 call au  :=by
 intro a b c d;unfold L206_0;exact (lb fun _=>(lb fun _=>(lb fun _=>(lb fun _=>(aN (lb fun _=>c _) (bu _))))))
def FL206_0(call:CC)(vs:List AV):au (L206_0 call au) vs=L206_0 call au  (au (L206_0 call au)) vs:=cB (XL206_0) vs
def S206(call:CC)(fx:cQ AV)(a0 a1:AV):M AV:=fx (L206_0 call fx) [a0,a1,.int .i64 0]
def E206(a0 a1:AV):EE 206 Tryz.f206 vr [a0,a1] (fun c x=>S206 c x a0 a1):=fun _ _=>by kernel_rfl
def C206(a0 a1:AV):ai pg 206 [a0,a1]=aX (S206 (ai pg) au (cl aB a0) (cl aB a1)):=(aD aW rfl rfl rfl _).trans (Gb aX (E206 (cl aB a0) (cl aB a1) _ _))
def S208(call:CC)(fx:cQ AV)(a0:AV):M AV:=af (aj (az T .geq 5 a0 (.int .u8 48))) fun a=>af (ax a true 1 (af (aj (az T .leq 5 a0 (.int .u8 57))) fun b=>aw [b])) fun c=>af (aj (aV a (ah c 0) (.bool false))) fun d=>aw d
def E208(a0:AV):EE 208 Tryz.f208 vv [a0] (fun c x=>S208 c x a0):=fun _ _=>by kernel_rfl
def C208(a0:AV):ai pg 208 [a0]=aX (S208 (ai pg) au (cl aB a0)):=(aD aW rfl rfl rfl _).trans (Gb aX (E208 (cl aB a0) _ _))
def S23(call:CC)(fx:cQ AV)(a0:AV):M AV:=af (aj (am T 35 (.ip (ae a0)))) fun a=>af (call 56 [a]) fun b=>aw b
def E23(a0:AV):EE 23 Tryz.f23 zq [a0] (fun c x=>S23 c x a0):=fun _ _=>by kernel_rfl
def C23(a0:AV):ai pg 23 [a0]=aX (S23 (ai pg) au (cl aB a0)):=(aD aW rfl rfl rfl _).trans (Gb aX (E23 (cl aB a0) _ _))
def S37(call:CC)(fx:cQ AV)(a0 a1:AV):M AV:=af (aj (am T 35 (.ip (ae a0)))) fun a=>af (call 23 [a]) fun b=>af (aj (iq UnOp.not b)) fun c=>af (ax c false 1 (af (aj (am T 35 (.ip (ae a1)))) fun d=>af (call 23 [d]) fun e=>af (aj (iq UnOp.not e)) fun f=>aw [f])) fun g=>af (aj (aV c (.bool true) (ah g 0))) fun h=>aF h (af (aj (ct T false 35 [])) fun i=>af (aK 2 [] i) fun j=>aw (.tup [.agg [ah (ae j) 0,ah (ae j) 1],.bool false])) (af (aj (am T 35 (.ip (ae a0)))) fun k=>af (aj (am T 35 (.ip (ae a1)))) fun l=>af (call 74 [k,l]) fun m=>af (aj (bh m 0)) fun n=>af (aj (bh m 1)) fun o=>af (aK 2 [] n) fun p=>aw (.tup [.agg [ah (ae p) 0,ah (ae p) 1],o]))
def E37(a0 a1:AV):EE 37 Tryz.f37 zu [a0,a1] (fun c x=>S37 c x a0 a1):=fun _ _=>by kernel_rfl
def C37(a0 a1:AV):ai pg 37 [a0,a1]=aX (S37 (ai pg) au (cl aB a0) (cl aB a1)):=(aD aW rfl rfl rfl _).trans (Gb aX (E37 (cl aB a0) (cl aB a1) _ _))
def L74_0(call:CC)(fx:cQ AV)(a:RR)(b:List AV):M AV:=af (aj (az T .lss 3 (ah b 3) (ah b 2))) fun c=>aF c (af (aj (ay T 23 (ah b 1) (ah b 3))) fun d=>af (aj (am T 37 d)) fun e=>af (bn 3 e) fun f=>af (aj (aa T 35 (ah b 0) 1)) fun g=>af (aj (am T 23 g)) fun h=>af (aj (aa T 37 (.ip (ae f)) 0)) fun i=>af (aj (am T 9 i)) fun j=>af (call 112 [h,j]) fun k=>af (aj (bh k 0)) fun l=>af (aj (bh k 1)) fun m=>af (bn 2 l) fun n=>aF m (af (aj (aa T 37 (.ip (ae f)) 1)) fun o=>af (aj (am T 35 o)) fun p=>af (aj (am T 35 (.ip (ae n)))) fun q=>af (call 74 [p,q]) fun r=>af (aj (bh r 0)) fun s=>af (aj (bh r 1)) fun u=>af (bn 2 s) fun v=>aF u (af (aj (aa T 37 (.ip (ae f)) 0)) fun w=>af (aj (am T 9 w)) fun x=>af (aj (am T 35 (.ip (ae v)))) fun y=>af (aj (ct T false 37 [(0,x),(1,y)])) fun z=>af (aj (bm T 23 1 [(0,z)])) fun A=>af (aj (ew T 23 (ah b 7) A)) fun B=>af (ek B) fun C=>af (aj (az T .add 3 (ah b 3) (.int .i64 1))) fun D=>a [ah b 0,ah b 1,ah b 2,D,ah b 4,ah b 5,ah b 6,B]) (af (aj (az T .add 3 (ah b 3) (.int .i64 1))) fun E=>a [ah b 0,ah b 1,ah b 2,E,ah b 4,ah b 5,ah b 6,ah b 7])) (af (aj (az T .add 3 (ah b 3) (.int .i64 1))) fun F=>a [ah b 0,ah b 1,ah b 2,F,ah b 4,ah b 5,ah b 6,ah b 7])) (af (aK 2 [] (.agg [ah b 6,ah b 7])) fun G=>aw (.tup [.agg [ah (ae G) 0,ah (ae G) 1],.bool true]))
def XL74_0{call:CC}:dt (L74_0 call au) fun _n=>L74_0 call au  :=by
 intro a b c d;unfold L74_0;exact (lb fun _=>(aN (by(iterate 11 refine lb fun _=>?_);exact (aN (by(iterate 7 refine lb fun _=>?_);exact (aN (by(iterate 8 refine lb fun _=>?_);exact (c _)) (lb fun _=>c _))) (lb fun _=>c _))) (bu _)))
def FL74_0(call:CC)(vs:List AV):au (L74_0 call au) vs=L74_0 call au  (au (L74_0 call au)) vs:=cB (XL74_0) vs
def S74(call:CC)(fx:cQ AV)(a0 a1:AV):M AV:=af (aj (aa T 35 (.ip (ae a0)) 0)) fun a=>af (aj (am T 3 a)) fun b=>af (aj (aa T 35 (.ip (ae a1)) 0)) fun c=>af (aj (am T 3 c)) fun d=>af (aj (az T .neq 3 b d)) fun e=>aF e (af (aj (ct T false 35 [])) fun f=>af (aK 2 [] f) fun g=>aw (.tup [.agg [ah (ae g) 0,ah (ae g) 1],.bool false])) (af (aj (aa T 35 (.ip (ae a0)) 0)) fun h=>af (aj (am T 3 h)) fun i=>af (aj (ct T true 35 [(0,i)])) fun j=>af (aK 2 [1] j) fun k=>af (aj (aa T 35 (.ip (ae a0)) 1)) fun l=>af (aj (am T 23 l)) fun m=>af (aj (bq T 23 m)) fun n=>fx (L74_0 call fx) [.ip (ae a1),m,n,.int .i64 0,.int .i64 0,.sl [],ah (ae k) 0,.sl []])
def E74(a0 a1:AV):EE 74 Tryz.f74 zD [a0,a1] (fun c x=>S74 c x a0 a1):=fun _ _=>by kernel_rfl
def C74(a0 a1:AV):ai pg 74 [a0,a1]=aX (S74 (ai pg) au (cl aB a0) (cl aB a1)):=(aD aW rfl rfl rfl _).trans (Gb aX (E74 (cl aB a0) (cl aB a1) _ _))
def L81_0(call:CC)(fx:cQ AV)(a:RR)(b:List AV):M AV:=af (aj (az T .lss 3 (ah b 3) (ah b 2))) fun c=>aF c (af (aj (ay T 23 (ah b 0) (ah b 3))) fun d=>af (aj (am T 37 d)) fun e=>af (bJ call (ah b 1) [e]) fun f=>aF f (aw (ah b 3)) (af (aj (az T .add 3 (ah b 3) (.int .i64 1))) fun g=>a [ah b 0,ah b 1,ah b 2,g])) (aw (.int .i64 (-1)))
def XL81_0{call:CC}:dt (L81_0 call au) fun _n=>L81_0 call au  :=by
 intro a b c d;unfold L81_0;exact (lb fun _=>(aN (lb fun _=>(lb fun _=>(lb fun _=>(aN (bu _) (lb fun _=>c _))))) (bu _)))
def FL81_0(call:CC)(vs:List AV):au (L81_0 call au) vs=L81_0 call au  (au (L81_0 call au)) vs:=cB (XL81_0) vs
def S81(call:CC)(fx:cQ AV)(a0 a1:AV):M AV:=af (aj (bq T 23 a0)) fun a=>fx (L81_0 call fx) [a0,a1,a,.int .i64 0]
def E81(a0 a1:AV):EE 81 Tryz.f81 zE [a0,a1] (fun c x=>S81 c x a0 a1):=fun _ _=>by kernel_rfl
def C81(a0 a1:AV):ai pg 81 [a0,a1]=aX (S81 (ai pg) au (cl aB a0) (cl aB a1)):=(aD aW rfl rfl rfl _).trans (Gb aX (E81 (cl aB a0) (cl aB a1) _ _))
def S97(call:CC)(fx:cQ AV)(a0 a1:AV):M AV:=af (aj (aa T 45 a1 2)) fun a=>af (aj (am T 22 a)) fun b=>af (aj (aa T 37 (.ip (ae a0)) 0)) fun c=>af (aj (am T 9 c)) fun d=>af (call 98 [b,d]) fun e=>af (aj (az T .lss 3 e (.int .i64 0))) fun f=>af (ax f false 1 (af (aj (aa T 37 (.ip (ae a0)) 1)) fun g=>af (aj (am T 35 g)) fun h=>af (aj (aa T 45 a1 3)) fun i=>af (aj (am T 30 i)) fun j=>af (aj (ay T 30 j e)) fun k=>af (aj (am T 45 k)) fun l=>af (dy (call 55 [h,l])) fun m=>af (aj (iq UnOp.not m)) fun n=>aw [n])) fun o=>af (aj (aV f (.bool true) (ah o 0))) fun p=>aw p
def E97(a0 a1:AV):EE 97 Tryz.f97 zH [a0,a1] (fun c x=>S97 c x a0 a1):=fun _ _=>by kernel_rfl
def C97(a0 a1:AV):ai pg 97 [a0,a1]=aX (S97 (ai pg) au (cl aB a0) (cl aB a1)):=(aD aW rfl rfl rfl _).trans (Gb aX (E97 (cl aB a0) (cl aB a1) _ _))
def L98_0(call:CC)(fx:cQ AV)(a:RR)(b:List AV):M AV:=af (aj (az T .lss 3 (ah b 3) (ah b 2))) fun c=>aF c (af (aj (ay T 22 (ah b 0) (ah b 3))) fun d=>af (aj (am T 9 d)) fun e=>af (aj (az T .eql 9 (ah b 1) e)) fun f=>aF f (aw (ah b 3)) (af (aj (az T .add 3 (ah b 3) (.int .i64 1))) fun g=>a [ah b 0,ah b 1,ah b 2,g])) (aw (.int .i64 (-1)))
def XL98_0{call:CC}:dt (L98_0 call au) fun _n=>L98_0 call au  :=by
 intro a b c d;unfold L98_0;exact (lb fun _=>(aN (lb fun _=>(lb fun _=>(lb fun _=>(aN (bu _) (lb fun _=>c _))))) (bu _)))
def FL98_0(call:CC)(vs:List AV):au (L98_0 call au) vs=L98_0 call au  (au (L98_0 call au)) vs:=cB (XL98_0) vs
def S98(call:CC)(fx:cQ AV)(a0 a1:AV):M AV:=af (aj (bq T 22 a0)) fun a=>fx (L98_0 call fx) [a0,a1,a,.int .i64 0]
def E98(a0 a1:AV):EE 98 Tryz.f98 zI [a0,a1] (fun c x=>S98 c x a0 a1):=fun _ _=>by kernel_rfl
def C98(a0 a1:AV):ai pg 98 [a0,a1]=aX (S98 (ai pg) au (cl aB a0) (cl aB a1)):=(aD aW rfl rfl rfl _).trans (Gb aX (E98 (cl aB a0) (cl aB a1) _ _))
def S136(call:CC)(fx:cQ AV)(a0 a1:AV):M AV:=af (aj (am T 45 (.ip (ae a0)))) fun a=>af (aj (am T 3 a1)) fun b=>af (aj (az T .sub 3 b (.int .i64 1))) fun c=>af (call 86 [a,c]) fun d=>af (aj (iq UnOp.not d)) fun e=>aw e
def E136(a0 a1:AV):EE 136 Tryz.f136 vj [a0,a1] (fun c x=>S136 c x a0 a1):=fun _ _=>by kernel_rfl
def C136(a0 a1:AV):ai pg 136 [a0,a1]=aX (S136 (ai pg) au (cl aB a0) (cl aB a1)):=(aD aW rfl rfl rfl _).trans (Gb aX (E136 (cl aB a0) (cl aB a1) _ _))
def S205(call:CC)(fx:cQ AV)(a0:AV):M AV:=af (aj (az T .geq 5 a0 (.int .u8 97))) fun a=>af (ax a true 1 (af (aj (az T .leq 5 a0 (.int .u8 122))) fun b=>aw [b])) fun c=>af (aj (aV a (ah c 0) (.bool false))) fun d=>aw d
def E205(a0:AV):EE 205 Tryz.f205 vq [a0] (fun c x=>S205 c x a0):=fun _ _=>by kernel_rfl
def C205(a0:AV):ai pg 205 [a0]=aX (S205 (ai pg) au (cl aB a0)):=(aD aW rfl rfl rfl _).trans (Gb aX (E205 (cl aB a0) _ _))
def S6(call:CC)(fx:cQ AV)(a0 a1 a2:AV):M AV:=af (call 8 []) fun a=>af (aj (am T 35 (.ip (ae a0)))) fun b=>af (aj (am T 35 (.ip (ae a1)))) fun c=>af (aj (bm T 47 2 [(0,b),(1,c)])) fun d=>af (call 16 [d]) fun e=>af (aj (iq UnOp.not e)) fun f=>af (ax f false 1 (af (aj (am T 45 (.ip (ae a2)))) fun g=>af (aj (bm T 30 1 [(0,g)])) fun h=>af (call 10 [h]) fun i=>af (aj (iq UnOp.not i)) fun j=>aw [j])) fun k=>af (aj (aV f (.bool true) (ah k 0))) fun l=>aF l (aw a) (af (aj (am T 35 (.ip (ae a0)))) fun m=>af (aj (am T 45 (.ip (ae a2)))) fun n=>af (call 20 [m,n]) fun o=>af (aj (am T 35 (.ip (ae a1)))) fun p=>af (aj (am T 45 (.ip (ae a2)))) fun q=>af (call 20 [p,q]) fun r=>af (aj (am T 35 (.ip (ae a0)))) fun s=>af (aj (am T 35 (.ip (ae a1)))) fun u=>af (call 35 [s,u]) fun v=>af (ax v true 1 (aw [o])) fun w=>af (aj (aV v (ah w 0) (.bool false))) fun x=>af (ax x true 1 (af (aj (iq UnOp.not r)) fun y=>aw [y])) fun z=>af (aj (aV x (ah z 0) (.bool false))) fun A=>aF A (aw (.bool false)) (af (aj (am T 35 (.ip (ae a0)))) fun B=>af (aj (am T 35 (.ip (ae a1)))) fun C=>af (call 36 [B,C]) fun D=>af (aj (bh D 0)) fun E=>af (aj (bh D 1)) fun F=>af (bn 2 E) fun G=>af (aj (am T 35 (.ip (ae a0)))) fun H=>af (aj (am T 35 (.ip (ae a1)))) fun I=>af (call 37 [H,I]) fun J=>af (aj (bh J 0)) fun K=>af (aj (bh J 1)) fun L=>af (bn 2 K) fun N=>af (ax a true 1 (af (aj (iq UnOp.not F)) fun O=>aw [O])) fun P=>af (ax (ah P 0) false 2 (af (aj (am T 35 (.ip (ae G)))) fun Q=>af (aj (am T 45 (.ip (ae a2)))) fun R=>af (call 20 [Q,R]) fun S=>aw [S,o])) fun U=>af (ax (ah U 1) true 1 (aw [r])) fun V=>af (ax (ah P 0) false 1 (af (aj (aV (ah U 1) (ah V 0) (.bool false))) fun W=>af (aj (az T .eql 4 (ah U 0) W)) fun X=>aw [X])) fun Y=>af (ax a true 1 (af (aj (aV (ah P 0) (.bool true) (ah Y 0))) fun Z=>aw [Z])) fun u0=>af (aj (aV a (ah u0 0) (.bool false))) fun u1=>af (ax u1 true 1 (af (aj (iq UnOp.not L)) fun u2=>aw [u2])) fun u3=>af (ax (ah u3 0) false 1 (af (aj (iq UnOp.not o)) fun u4=>aw [u4])) fun u5=>af (ax (ah u5 0) true 1 (af (aj (iq UnOp.not r)) fun u6=>aw [u6])) fun u7=>af (ax (ah u3 0) false 1 (af (aj (aV (ah u5 0) (ah u7 0) (.bool false))) fun u8=>aw [u8])) fun u9=>af (ax u1 true 1 (af (aj (aV (ah u3 0) (.bool true) (ah u9 0))) fun w0=>aw [w0])) fun w1=>af (ax (ah w1 0) false 1 (af (aj (am T 35 (.ip (ae N)))) fun w2=>af (aj (am T 45 (.ip (ae a2)))) fun w3=>af (call 20 [w2,w3]) fun w4=>aw [w4])) fun w5=>af (ax u1 true 1 (af (aj (aV (ah w1 0) (.bool true) (ah w5 0))) fun w6=>aw [w6])) fun w7=>af (aj (aV u1 (ah w7 0) (.bool false))) fun w8=>aw w8))
def E6(a0 a1 a2:AV):EE 6 Tryz.f6 CU [a0,a1,a2] (fun c x=>S6 c x a0 a1 a2):=fun _ _=>by kernel_rfl
def C6(a0 a1 a2:AV):ai pg 6 [a0,a1,a2]=aX (S6 (ai pg) au (cl aB a0) (cl aB a1) (cl aB a2)):=(aD aW rfl rfl rfl _).trans (Gb aX (E6 (cl aB a0) (cl aB a1) (cl aB a2) _ _))
def S35(call:CC)(fx:cQ AV)(a0 a1:AV):M AV:=af (aj (am T 35 (.ip (ae a0)))) fun a=>af (call 23 [a]) fun b=>af (ax b true 1 (af (aj (am T 35 (.ip (ae a1)))) fun c=>af (call 23 [c]) fun d=>aw [d])) fun e=>af (aj (aV b (ah e 0) (.bool false))) fun f=>af (ax f true 1 (af (aj (am T 35 (.ip (ae a0)))) fun g=>af (aj (am T 35 (.ip (ae a1)))) fun h=>af (call 72 [g,h]) fun i=>aw [i])) fun j=>af (aj (aV f (ah j 0) (.bool false))) fun k=>aw k
def E35(a0 a1:AV):EE 35 Tryz.f35 zr [a0,a1] (fun c x=>S35 c x a0 a1):=fun _ _=>by kernel_rfl
def C35(a0 a1:AV):ai pg 35 [a0,a1]=aX (S35 (ai pg) au (cl aB a0) (cl aB a1)):=(aD aW rfl rfl rfl _).trans (Gb aX (E35 (cl aB a0) (cl aB a1) _ _))
def L42_0(call:CC)(fx:cQ AV)(a:RR)(b:List AV):M AV:=af (aj (aa T 45 (ah b 2) 3)) fun c=>af (aj (am T 30 c)) fun d=>af (aj (bq T 30 d)) fun e=>af (aj (az T .lss 3 (ah b 4) e)) fun f=>af (ax f true 1 (af (aj (az T .leq 3 (ah b 3) (ah b 0))) fun g=>aw [g])) fun h=>af (aj (aV f (ah h 0) (.bool false))) fun i=>aF i (af (aj (aa T 45 (ah b 2) 3)) fun j=>af (aj (am T 30 j)) fun k=>af (aj (ay T 30 k (ah b 4))) fun l=>af (aj (am T 45 l)) fun m=>af (aj (az T .sub 3 (ah b 0) (ah b 3))) fun n=>af (aj (az T .sub 3 (ah b 1) (.int .i64 1))) fun o=>af (call 42 [m,n,o]) fun p=>af (aj (az T .add 3 (ah b 3) p)) fun q=>af (aj (az T .add 3 (ah b 4) (.int .i64 1))) fun r=>a [ah b 0,ah b 1,ah b 2,q,r]) (aw (ah b 3))
def L42_1(call:CC)(fx:cQ AV)(a:RR)(b:List AV):M AV:=af (aj (aa T 45 (ah b 2) 2)) fun c=>af (aj (am T 22 c)) fun d=>af (aj (bq T 22 d)) fun e=>af (aj (az T .lss 3 (ah b 4) e)) fun f=>aF f (af (aj (aa T 45 (ah b 2) 2)) fun g=>af (aj (am T 22 g)) fun h=>af (aj (ay T 22 h (ah b 4))) fun i=>af (aj (am T 9 i)) fun j=>af (aj (bq T 9 j)) fun k=>af (aj (az T .gtr 3 k (.int .i64 60))) fun l=>aF l (af (aj (az T .add 3 (ah b 0) (.int .i64 1))) fun m=>aw m) (af (aj (az T .add 3 (ah b 4) (.int .i64 1))) fun n=>a [ah b 0,ah b 1,ah b 2,ah b 3,n])) (fx (L42_0 call fx) [ah b 0,ah b 1,ah b 2,ah b 3,.int .i64 0])
def XL42_0{call:CC}:dt (L42_0 call au) fun _n=>L42_0 call au  :=by
 intro a b c d;unfold L42_0;exact (by(iterate 6 refine lb fun _=>?_);exact (aN (by(iterate 9 refine lb fun _=>?_);exact (c _)) (bu _)))
def FL42_0(call:CC)(vs:List AV):au (L42_0 call au) vs=L42_0 call au  (au (L42_0 call au)) vs:=cB (XL42_0) vs
def XL42_1{call:CC}:dt (L42_1 call au) fun _n=>L42_1 call au  :=by
 intro a b c d;unfold L42_1;exact (lb fun _=>(lb fun _=>(lb fun _=>(lb fun _=>(aN (by(iterate 6 refine lb fun _=>?_);exact (aN (bu _) (lb fun _=>c _))) (bu _))))))
def FL42_1(call:CC)(vs:List AV):au (L42_1 call au) vs=L42_1 call au  (au (L42_1 call au)) vs:=cB (XL42_1) vs
def S42(call:CC)(fx:cQ AV)(a0 a1 a2:AV):M AV:=af (aj (az T .lss 3 a2 (.int .i64 1))) fun a=>af (ax a false 1 (af (aj (aa T 45 (.ip (ae a0)) 2)) fun b=>af (aj (am T 22 b)) fun c=>af (aj (bq T 22 c)) fun d=>af (aj (az T .gtr 3 d (.int .i64 12))) fun e=>aw [e])) fun f=>af (aj (aV a (.bool true) (ah f 0))) fun g=>aF g (af (aj (az T .add 3 a1 (.int .i64 1))) fun h=>aw h) (fx (L42_1 call fx) [a1,a2,.ip (ae a0),.int .i64 1,.int .i64 0])
def E42(a0 a1 a2:AV):EE 42 Tryz.f42 zv [a0,a1,a2] (fun c x=>S42 c x a0 a1 a2):=fun _ _=>by kernel_rfl
def C42(a0 a1 a2:AV):ai pg 42 [a0,a1,a2]=aX (S42 (ai pg) au (cl aB a0) (cl aB a1) (cl aB a2)):=(aD aW rfl rfl rfl _).trans (Gb aX (E42 (cl aB a0) (cl aB a1) (cl aB a2) _ _))
def S49(call:CC)(fx:cQ AV)(a0:AV):M AV:=af (aj (am T 45 (.ip (ae a0)))) fun a=>af (call 86 [a,.int .i64 4]) fun b=>aw b
def E49(a0:AV):EE 49 Tryz.f49 zx [a0] (fun c x=>S49 c x a0):=fun _ _=>by kernel_rfl
def C49(a0:AV):ai pg 49 [a0]=aX (S49 (ai pg) au (cl aB a0)):=(aD aW rfl rfl rfl _).trans (Gb aX (E49 (cl aB a0) _ _))
def S56(call:CC)(fx:cQ AV)(a0:AV):M AV:=af (aj (am T 35 (.ip (ae a0)))) fun a=>af (call 99 [a,.int .i64 4]) fun b=>aw b
def E56(a0:AV):EE 56 Tryz.f56 zA [a0] (fun c x=>S56 c x a0):=fun _ _=>by kernel_rfl
def C56(a0:AV):ai pg 56 [a0]=aX (S56 (ai pg) au (cl aB a0)):=(aD aW rfl rfl rfl _).trans (Gb aX (E56 (cl aB a0) _ _))
def S72(call:CC)(fx:cQ AV)(a0 a1:AV):M AV:=af (aj (aa T 35 (.ip (ae a0)) 0)) fun a=>af (aj (am T 3 a)) fun b=>af (aj (aa T 35 (.ip (ae a1)) 0)) fun c=>af (aj (am T 3 c)) fun d=>af (aj (az T .eql 3 b d)) fun e=>af (ax e true 1 (af (aj (aa T 35 (.ip (ae a1)) 1)) fun f=>af (aj (am T 23 f)) fun g=>af (call 96 [g,.fn (Fn.func 111) [] [.ip (ae a0)]]) fun h=>af (aj (iq UnOp.not h)) fun i=>aw [i])) fun j=>af (aj (aV e (ah j 0) (.bool false))) fun k=>aw k
def E72(a0 a1:AV):EE 72 Tryz.f72 zB [a0,a1] (fun c x=>S72 c x a0 a1):=fun _ _=>by kernel_rfl
def C72(a0 a1:AV):ai pg 72 [a0,a1]=aX (S72 (ai pg) au (cl aB a0) (cl aB a1)):=(aD aW rfl rfl rfl _).trans (Gb aX (E72 (cl aB a0) (cl aB a1) _ _))
def L113_0(call:CC)(fx:cQ AV)(a:RR)(b:List AV):M AV:=af (aj (az T .lss 3 (ah b 2) (ah b 1))) fun c=>aF c (af (aj (ay T 23 (ah b 0) (ah b 2))) fun d=>af (dH T 37 d) fun e=>af (bn 3 e) fun f=>af (aj (aa T 37 (.ip (ae f)) 0)) fun g=>af (aj (am T 9 g)) fun h=>af (aj (aa T 37 (.ip (ae f)) 1)) fun i=>af (aj (am T 35 i)) fun j=>af (call 113 [j]) fun k=>af (aj (ct T false 37 [(0,h),(1,k)])) fun l=>af (aj (bm T 23 1 [(0,l)])) fun m=>af (appH T 23 false (ah b 6) m) fun n=>af (ek n) fun o=>af (aj (az T .add 3 (ah b 2) (.int .i64 1))) fun p=>a [ah b 0,ah b 1,p,ah b 3,ah b 4,ah b 5,n]) (af (aK 2 [] (.agg [ah b 5,ah b 6])) fun q=>aw (.agg [ah (ae q) 0,ah (ae q) 1]))
def XL113_0{call:CC}:dt (L113_0 call au) fun _n=>L113_0 call au  :=by
 intro a b c d;unfold L113_0;exact (lb fun _=>(aN (by(iterate 13 refine lb fun _=>?_);exact (c _)) (bu _)))
def FL113_0(call:CC)(vs:List AV):au (L113_0 call au) vs=L113_0 call au  (au (L113_0 call au)) vs:=cB (XL113_0) vs
def S113(call:CC)(fx:cQ AV)(a0:AV):M AV:=af (aj (aa T 35 (.ip (ae a0)) 0)) fun a=>af (aj (am T 3 a)) fun b=>af (aj (ct T true 35 [(0,b)])) fun c=>af (aK 2 [] c) fun d=>af (aj (aa T 35 (.ip (ae a0)) 1)) fun e=>af (aj (am T 23 e)) fun f=>af (aj (bq T 23 f)) fun g=>fx (L113_0 call fx) [f,g,.int .i64 0,.int .i64 0,.sl [],ah (ae d) 0,ah (ae d) 1]
def E113(a0:AV):EE 113 Tryz.f113 uY [a0] (fun c x=>S113 c x a0):=fun _ _=>by kernel_rfl
def C113(a0:AV):ai pg 113 [a0]=S113 (ai pg) au a0:=(iv aW rfl rfl rfl _).trans (E113 a0 _ _)
def S119(call:CC)(fx:cQ AV)(a0:AV):M AV:=af (call 158 [a0]) fun a=>af (ax a true 1 (af (aj (az T .add 9 (.str [32]) a0)) fun b=>af (aj (az T .add 9 b (.str [32]))) fun c=>af (call 159 [.str [32,97,110,100,32,98,97,99,107,32,98,111,111,108,32,99,108,111,99,107,32,101,108,115,101,32,102,97,108,115,101,32,102,105,108,101,115,32,102,110,32,102,111,114,119,97,114,100,32,103,101,116,32,105,102,32,105,110,32,105,110,116,32,108,101,116,32,109,111,100,117,108,101,32,109,111,118,101,32,110,101,116,32,110,111,116,32,111,114,32,112,117,98,32,115,101,99,114,101,116,115,32,115,101,116,32,116,104,101,110,32,116,114,117,101,32,117,115,101,32,118,97,114,32],c]) fun d=>af (aj (iq UnOp.not d)) fun e=>aw [e])) fun f=>af (aj (aV a (ah f 0) (.bool false))) fun g=>aw g
def E119(a0:AV):EE 119 Tryz.f119 ve [a0] (fun c x=>S119 c x a0):=fun _ _=>by kernel_rfl
def C119(a0:AV):ai pg 119 [a0]=aX (S119 (ai pg) au (cl aB a0)):=(aD aW rfl rfl rfl _).trans (Gb aX (E119 (cl aB a0) _ _))
def L135_0(call:CC)(fx:cQ AV)(a:RR)(b:List AV):M AV:=af (aj (bq T 22 (ah b 0))) fun c=>af (aj (az T .lss 3 (ah b 1) c)) fun d=>aF d (af (aj (az T .sub 3 (ah b 1) (.int .i64 1))) fun e=>af (aj (ay T 22 (ah b 0) e)) fun f=>af (aj (am T 9 f)) fun g=>af (aj (ay T 22 (ah b 0) (ah b 1))) fun h=>af (aj (am T 9 h)) fun i=>af (aj (az T .geq 9 g i)) fun j=>aF j (aw (.bool false)) (af (aj (az T .add 3 (ah b 1) (.int .i64 1))) fun k=>a [ah b 0,k])) (aw (.bool true))
def XL135_0{call:CC}:dt (L135_0 call au) fun _n=>L135_0 call au  :=by
 intro a b c d;unfold L135_0;exact (lb fun _=>(lb fun _=>(aN (by(iterate 6 refine lb fun _=>?_);exact (aN (bu _) (lb fun _=>c _))) (bu _))))
def FL135_0(call:CC)(vs:List AV):au (L135_0 call au) vs=L135_0 call au  (au (L135_0 call au)) vs:=cB (XL135_0) vs
def S135(call:CC)(fx:cQ AV)(a0:AV):M AV:=fx (L135_0 call fx) [a0,.int .i64 1]
def E135(a0:AV):EE 135 Tryz.f135 vg [a0] (fun c x=>S135 c x a0):=fun _ _=>by kernel_rfl
def C135(a0:AV):ai pg 135 [a0]=aX (S135 (ai pg) au (cl aB a0)):=(aD aW rfl rfl rfl _).trans (Gb aX (E135 (cl aB a0) _ _))
def S207(call:CC)(fx:cQ AV)(a0:AV):M AV:=af (call 205 [a0]) fun a=>af (ax a false 1 (af (call 208 [a0]) fun b=>aw [b])) fun c=>af (aj (aV a (.bool true) (ah c 0))) fun d=>aw d
def E207(a0:AV):EE 207 Tryz.f207 vu [a0] (fun c x=>S207 c x a0):=fun _ _=>by kernel_rfl
def C207(a0:AV):ai pg 207 [a0]=aX (S207 (ai pg) au (cl aB a0)):=(aD aW rfl rfl rfl _).trans (Gb aX (E207 (cl aB a0) _ _))
def L16_0(call:CC)(fx:cQ AV)(a:RR)(b:List AV):M AV:=af (aj (bq T 47 (ah b 0))) fun c=>af (aj (az T .lss 3 (ah b 1) c)) fun d=>aF d (af (aj (ay T 47 (ah b 0) (ah b 1))) fun e=>af (aj (am T 35 e)) fun f=>af (call 48 [f,.int .i64 40,.int .i64 6]) fun g=>af (aj (az T .gtr 3 g (.int .i64 40))) fun h=>aF h (aw (.bool false)) (af (aj (az T .add 3 (ah b 1) (.int .i64 1))) fun i=>a [ah b 0,i])) (aw (.bool true))
def XL16_0{call:CC}:dt (L16_0 call au) fun _n=>L16_0 call au  :=by
 intro a b c d;unfold L16_0;exact (lb fun _=>(lb fun _=>(aN (lb fun _=>(lb fun _=>(lb fun _=>(lb fun _=>(aN (bu _) (lb fun _=>c _)))))) (bu _))))
def FL16_0(call:CC)(vs:List AV):au (L16_0 call au) vs=L16_0 call au  (au (L16_0 call au)) vs:=cB (XL16_0) vs
def S16(call:CC)(fx:cQ AV)(a0:AV):M AV:=fx (L16_0 call fx) [a0,.int .i64 0]
def E16(a0:AV):EE 16 Tryz.f16 zo [a0] (fun c x=>S16 c x a0):=fun _ _=>by kernel_rfl
def C16(a0:AV):ai pg 16 [a0]=aX (S16 (ai pg) au (cl aB a0)):=(aD aW rfl rfl rfl _).trans (Gb aX (E16 (cl aB a0) _ _))
def S36(call:CC)(fx:cQ AV)(a0 a1:AV):M AV:=af (aj (am T 35 (.ip (ae a0)))) fun a=>af (call 23 [a]) fun b=>af (aj (iq UnOp.not b)) fun c=>af (ax c false 1 (af (aj (am T 35 (.ip (ae a1)))) fun d=>af (call 23 [d]) fun e=>af (aj (iq UnOp.not e)) fun f=>aw [f])) fun g=>af (aj (aV c (.bool true) (ah g 0))) fun h=>aF h (af (aj (ct T false 35 [])) fun i=>af (aK 2 [] i) fun j=>aw (.tup [.agg [ah (ae j) 0,ah (ae j) 1],.bool false])) (af (aj (am T 35 (.ip (ae a0)))) fun k=>af (aj (am T 35 (.ip (ae a1)))) fun l=>af (af (call 73 [k,l]) pO) fun m=>af (aj (bh m 0)) fun n=>af (aj (bh m 1)) fun o=>af (bn 2 n) fun p=>af (aj (iq UnOp.not o)) fun q=>af (ax q false 1 (af (aj (am T 35 (.ip (ae p)))) fun r=>af (call 23 [r]) fun s=>af (aj (iq UnOp.not s)) fun u=>aw [u])) fun v=>af (aj (aV q (.bool true) (ah v 0))) fun w=>aF w (af (aj (ct T false 35 [])) fun x=>af (aK 2 [] x) fun y=>aw (.tup [.agg [ah (ae y) 0,ah (ae y) 1],.bool false])) (af (aj (am T 35 (.ip (ae p)))) fun z=>af (aK 2 [] z) fun A=>aw (.tup [.agg [ah (ae A) 0,ah (ae A) 1],.bool true])))
def E36(a0 a1:AV):EE 36 Tryz.f36 zt [a0,a1] (fun c x=>S36 c x a0 a1):=fun _ _=>by kernel_rfl
def C36(a0 a1:AV):ai pg 36 [a0,a1]=aX (S36 (ai pg) au (cl aB a0) (cl aB a1)):=(aD aW rfl rfl rfl _).trans (Gb aX (E36 (cl aB a0) (cl aB a1) _ _))
def L73_0(call:CC)(fx:cQ AV)(a:RR)(b:List AV):M AV:=af (aj (az T .lss 3 (ah b 2) (ah b 1))) fun c=>aF c (af (aj (ay T 23 (ah b 0) (ah b 2))) fun d=>af (aj (am T 37 d)) fun e=>af (bn 3 e) fun f=>af (aj (aa T 37 (.ip (ae f)) 0)) fun g=>af (aj (am T 9 g)) fun h=>af (call 114 [ah b 6,h,.fn (Fn.func 115) [] []]) fun i=>af (aj (bh i 0)) fun j=>af (aj (bh i 1)) fun k=>af (aj (iq UnOp.not k)) fun l=>aF l (af (aj (aa T 37 (.ip (ae f)) 0)) fun m=>af (aj (am T 9 m)) fun n=>af (aj (aa T 37 (.ip (ae f)) 1)) fun o=>af (aj (am T 35 o)) fun p=>af (call 113 [p]) fun q=>af (aj (ct T false 37 [(0,n),(1,q)])) fun r=>af (fF T 23 1 [(0,r)]) fun s=>af (call 116 [ah b 6,j,s]) fun u=>af (ek u) fun v=>af (aj (az T .add 3 (ah b 2) (.int .i64 1))) fun w=>a [ah b 0,ah b 1,w,ah b 3,ah b 4,ah b 5,u]) (af (aj (ay T 23 (ah b 6) j)) fun x=>af (aj (aa T 37 x 1)) fun y=>af (dH T 35 y) fun z=>af (aj (aa T 37 (.ip (ae f)) 1)) fun A=>af (aj (am T 35 A)) fun B=>af (call 73 [z,B]) fun C=>af (aj (bh C 0)) fun D=>af (aj (bh C 1)) fun E=>af (bn 2 D) fun F=>af (aj (iq UnOp.not E)) fun G=>aF G (af (aj (ct T false 35 [])) fun H=>af (aK 2 [] H) fun I=>aw (.tup [.agg [ah (ae I) 0,ah (ae I) 1],.bool false])) (af (aj (am T 35 (.ip (ae F)))) fun J=>af (aj (ay T 23 (ah b 6) j)) fun K=>af (aj (aa T 37 K 1)) fun L=>af (fS T 35 L J) fun N=>af (aj (az T .add 3 (ah b 2) (.int .i64 1))) fun O=>a [ah b 0,ah b 1,O,ah b 3,ah b 4,ah b 5,ah b 6]))) (af (aK 2 [] (.agg [ah b 5,ah b 6])) fun P=>aw (.tup [.agg [ah (ae P) 0,ah (ae P) 1],.bool true]))
def XL73_0{call:CC}:dt (L73_0 call au) fun _n=>L73_0 call au  :=by
 intro a b c d;unfold L73_0;exact (lb fun _=>(aN (by(iterate 9 refine lb fun _=>?_);exact (aN (by(iterate 10 refine lb fun _=>?_);exact (c _)) (by(iterate 10 refine lb fun _=>?_);exact (aN (bu _) (by(iterate 5 refine lb fun _=>?_);exact (c _)))))) (bu _)))
def FL73_0(call:CC)(vs:List AV):au (L73_0 call au) vs=L73_0 call au  (au (L73_0 call au)) vs:=cB (XL73_0) vs
def S73(call:CC)(fx:cQ AV)(a0 a1:AV):M AV:=af (aj (aa T 35 (.ip (ae a0)) 0)) fun a=>af (aj (am T 3 a)) fun b=>af (aj (aa T 35 (.ip (ae a1)) 0)) fun c=>af (aj (am T 3 c)) fun d=>af (aj (az T .neq 3 b d)) fun e=>aF e (af (aj (ct T false 35 [])) fun f=>af (aK 2 [] f) fun g=>aw (.tup [.agg [ah (ae g) 0,ah (ae g) 1],.bool false])) (af (aj (am T 35 (.ip (ae a0)))) fun h=>af (call 113 [h]) fun i=>af (aK 2 [] i) fun j=>af (aj (aa T 35 (.ip (ae a1)) 1)) fun k=>af (aj (am T 23 k)) fun l=>af (aj (bq T 23 l)) fun m=>fx (L73_0 call fx) [l,m,.int .i64 0,.int .i64 0,.sl [],ah (ae j) 0,ah (ae j) 1])
def E73(a0 a1:AV):EE 73 Tryz.f73 zC [a0,a1] (fun c x=>S73 c x a0 a1):=fun _ _=>by kernel_rfl
def C73(a0 a1:AV):ai pg 73 [a0,a1]=S73 (ai pg) au a0 a1:=(iv aW rfl rfl rfl _).trans (E73 a0 a1 _ _)
def S86(call:CC)(fx:cQ AV)(a0 a1:AV):M AV:=af (aj (am T 3 (.ip (ae a1)))) fun a=>af (aj (az T .eql 3 a (.int .i64 0))) fun b=>aF b (aw (.bool false)) (af (aj (aa T 45 (.ip (ae a0)) 0)) fun c=>af (aj (am T 3 c)) fun d=>af (aj (az T .eql 3 d (.int .i64 0))) fun e=>af (ax e false 1 (af (aj (aa T 45 (.ip (ae a0)) 0)) fun f=>af (aj (am T 3 f)) fun g=>af (aj (az T .eql 3 g (.int .i64 1))) fun h=>aw [h])) fun i=>af (aj (aV e (.bool true) (ah i 0))) fun j=>aF j (af (aj (aa T 45 (.ip (ae a0)) 2)) fun k=>af (aj (am T 22 k)) fun l=>af (aj (bq T 22 l)) fun m=>af (aj (az T .eql 3 m (.int .i64 0))) fun n=>af (ax n true 1 (af (aj (aa T 45 (.ip (ae a0)) 3)) fun o=>af (aj (am T 30 o)) fun p=>af (aj (bq T 30 p)) fun q=>af (aj (az T .eql 3 q (.int .i64 0))) fun r=>aw [r])) fun s=>af (aj (aV n (ah s 0) (.bool false))) fun u=>af (ax u true 1 (af (aj (aa T 45 (.ip (ae a0)) 0)) fun v=>af (aj (am T 3 v)) fun w=>af (aj (az T .eql 3 w (.int .i64 0))) fun x=>aw [x])) fun y=>af (ax (ah y 0) false 1 (af (aj (aa T 45 (.ip (ae a0)) 1)) fun z=>af (aj (am T 3 z)) fun A=>af (aj (az T .eql 3 A (.int .i64 0))) fun B=>aw [B])) fun C=>af (ax u true 1 (af (aj (aV (ah y 0) (.bool true) (ah C 0))) fun D=>aw [D])) fun E=>af (ax (ah E 0) false 1 (af (aj (aa T 45 (.ip (ae a0)) 1)) fun F=>af (aj (am T 3 F)) fun G=>af (aj (az T .eql 3 G (.int .i64 1))) fun H=>aw [H])) fun I=>af (ax u true 1 (af (aj (aV (ah E 0) (.bool true) (ah I 0))) fun J=>aw [J])) fun K=>af (aj (aV u (ah K 0) (.bool false))) fun L=>aw L) (af (aj (aa T 45 (.ip (ae a0)) 0)) fun N=>af (aj (am T 3 N)) fun O=>af (aj (az T .neq 3 O (.int .i64 2))) fun P=>af (ax P false 1 (af (aj (aa T 45 (.ip (ae a0)) 1)) fun Q=>af (aj (am T 3 Q)) fun R=>af (aj (az T .neq 3 R (.int .i64 0))) fun S=>aw [S])) fun U=>af (aj (aV P (.bool true) (ah U 0))) fun V=>af (ax V false 1 (af (aj (aa T 45 (.ip (ae a0)) 2)) fun W=>af (aj (am T 22 W)) fun X=>af (aj (bq T 22 X)) fun Y=>af (aj (aa T 45 (.ip (ae a0)) 3)) fun Z=>af (aj (am T 30 Z)) fun u0=>af (aj (bq T 30 u0)) fun u1=>af (aj (az T .neq 3 Y u1)) fun u2=>aw [u2])) fun u3=>af (aj (aV V (.bool true) (ah u3 0))) fun u4=>af (ax u4 false 1 (af (aj (aa T 45 (.ip (ae a0)) 2)) fun u5=>af (aj (am T 22 u5)) fun u6=>af (aj (bq T 22 u6)) fun u7=>af (aj (az T .gtr 3 u7 (.int .i64 8))) fun u8=>aw [u8])) fun u9=>af (aj (aV u4 (.bool true) (ah u9 0))) fun w0=>af (ax w0 false 1 (af (aj (aa T 45 (.ip (ae a0)) 2)) fun w1=>af (aj (am T 22 w1)) fun w2=>af (call 135 [w2]) fun w3=>af (aj (iq UnOp.not w3)) fun w4=>aw [w4])) fun w5=>af (aj (aV w0 (.bool true) (ah w5 0))) fun w6=>aF w6 (aw (.bool false)) (af (aj (aa T 45 (.ip (ae a0)) 3)) fun w7=>af (aj (am T 30 w7)) fun w8=>af (call 130 [w8,.fn (Fn.func 136) [] [.ip (ae a1)]]) fun w9=>af (aj (iq UnOp.not w9)) fun x0=>aw x0)))
def E86(a0 a1:AV):EE 86 Tryz.f86 zF [a0,a1] (fun c x=>S86 c x a0 a1):=fun _ _=>by kernel_rfl
def C86(a0 a1:AV):ai pg 86 [a0,a1]=aX (S86 (ai pg) au (cl aB a0) (cl aB a1)):=(aD aW rfl rfl rfl _).trans (Gb aX (E86 (cl aB a0) (cl aB a1) _ _))
def L99_0(call:CC)(fx:cQ AV)(a:RR)(b:List AV):M AV:=af (aj (az T .lss 3 (ah b 4) (ah b 3))) fun c=>aF c (af (aj (ay T 23 (ah b 2) (ah b 4))) fun d=>af (aj (am T 37 d)) fun e=>af (bn 3 e) fun f=>af (aj (aa T 37 (.ip (ae f)) 0)) fun g=>af (aj (am T 9 g)) fun h=>af (dy (call 119 [h])) fun i=>af (aj (iq UnOp.not i)) fun j=>af (ax j false 1 (af (aj (az T .gtr 3 (ah b 4) (.int .i64 0))) fun k=>aw [k])) fun l=>af (ax (ah l 0) true 1 (af (aj (aa T 37 (.ip (ae f)) 0)) fun m=>af (aj (am T 9 m)) fun n=>af (aj (aa T 35 (ah b 1) 1)) fun o=>af (aj (am T 23 o)) fun p=>af (aj (az T .sub 3 (ah b 4) (.int .i64 1))) fun q=>af (aj (ay T 23 p q)) fun r=>af (aj (aa T 37 r 0)) fun s=>af (aj (am T 9 s)) fun u=>af (aj (az T .leq 9 n u)) fun v=>aw [v])) fun w=>af (ax j false 1 (af (aj (aV (ah l 0) (ah w 0) (.bool false))) fun x=>aw [x])) fun y=>af (aj (aV j (.bool true) (ah y 0))) fun z=>af (ax z false 1 (af (aj (aa T 37 (.ip (ae f)) 1)) fun A=>af (aj (am T 35 A)) fun B=>af (aj (az T .sub 3 (ah b 0) (.int .i64 1))) fun C=>af (dy (call 99 [B,C])) fun D=>af (aj (iq UnOp.not D)) fun E=>aw [E])) fun F=>af (aj (aV z (.bool true) (ah F 0))) fun G=>aF G (aw (.bool false)) (af (aj (az T .add 3 (ah b 4) (.int .i64 1))) fun H=>a [ah b 0,ah b 1,ah b 2,ah b 3,H])) (aw (.bool true))
def XL99_0{call:CC}:dt (L99_0 call au) fun _n=>L99_0 call au  :=by
 intro a b c d;unfold L99_0;exact (lb fun _=>(aN (by(iterate 13 refine lb fun _=>?_);exact (aN (bu _) (lb fun _=>c _))) (bu _)))
def FL99_0(call:CC)(vs:List AV):au (L99_0 call au) vs=L99_0 call au  (au (L99_0 call au)) vs:=cB (XL99_0) vs
def S99(call:CC)(fx:cQ AV)(a0 a1:AV):M AV:=af (aj (az T .eql 3 a1 (.int .i64 0))) fun a=>af (ax a false 1 (af (aj (aa T 35 (.ip (ae a0)) 0)) fun b=>af (aj (am T 3 b)) fun c=>af (aj (az T .lss 3 c (.int .i64 0))) fun d=>aw [d])) fun e=>af (aj (aV a (.bool true) (ah e 0))) fun f=>af (ax f false 1 (af (aj (aa T 35 (.ip (ae a0)) 0)) fun g=>af (aj (am T 3 g)) fun h=>af (aj (az T .geq 3 h (.int .i64 3))) fun i=>aw [i])) fun j=>af (aj (aV f (.bool true) (ah j 0))) fun k=>af (ax k false 1 (af (aj (aa T 35 (.ip (ae a0)) 1)) fun l=>af (aj (am T 23 l)) fun m=>af (aj (bq T 23 m)) fun n=>af (aj (az T .gtr 3 n (.int .i64 8))) fun o=>aw [o])) fun p=>af (aj (aV k (.bool true) (ah p 0))) fun q=>af (ax q false 1 (af (aj (aa T 35 (.ip (ae a0)) 0)) fun r=>af (aj (am T 3 r)) fun s=>af (aj (az T .neq 3 s (.int .i64 2))) fun u=>aw [u])) fun v=>af (ax (ah v 0) true 1 (af (aj (aa T 35 (.ip (ae a0)) 1)) fun w=>af (aj (am T 23 w)) fun x=>af (aj (bq T 23 x)) fun y=>af (aj (az T .gtr 3 y (.int .i64 0))) fun z=>aw [z])) fun A=>af (ax q false 1 (af (aj (aV (ah v 0) (ah A 0) (.bool false))) fun B=>aw [B])) fun C=>af (aj (aV q (.bool true) (ah C 0))) fun D=>aF D (aw (.bool false)) (af (aj (aa T 35 (.ip (ae a0)) 1)) fun E=>af (aj (am T 23 E)) fun F=>af (aj (bq T 23 F)) fun G=>fx (L99_0 call fx) [a1,.ip (ae a0),F,G,.int .i64 0])
def E99(a0 a1:AV):EE 99 Tryz.f99 zJ [a0,a1] (fun c x=>S99 c x a0 a1):=fun _ _=>by kernel_rfl
def C99(a0 a1:AV):ai pg 99 [a0,a1]=aX (S99 (ai pg) au (cl aB a0) (cl aB a1)):=(aD aW rfl rfl rfl _).trans (Gb aX (E99 (cl aB a0) (cl aB a1) _ _))
def L114_0(call:CC)(fx:cQ AV)(a:RR)(b:List AV):M AV:=af (aj (az T .lss 3 (ah b 4) (ah b 5))) fun c=>aF c (af (aj (az T .add 3 (ah b 4) (ah b 5))) fun d=>af (aj (lm T 3 189 d)) fun e=>af (aj (az T .shr 189 e (.int IntKind.u64 1))) fun f=>af (aj (lm T 189 3 f)) fun g=>af (aj (ay T 23 (ah b 0) g)) fun h=>af (dH T 37 h) fun i=>af (bJ call (ah b 2) [i,ah b 1]) fun j=>af (aj (az T .lss 3 j (.int .i64 0))) fun k=>aF k (af (aj (az T .add 3 g (.int .i64 1))) fun l=>a [ah b 0,ah b 1,ah b 2,ah b 3,l,ah b 5]) (a [ah b 0,ah b 1,ah b 2,ah b 3,ah b 4,g])) (af (aj (az T .lss 3 (ah b 4) (ah b 3))) fun m=>af (ax m true 1 (af (aj (ay T 23 (ah b 0) (ah b 4))) fun n=>af (dH T 37 n) fun o=>af (bJ call (ah b 2) [o,ah b 1]) fun p=>af (aj (az T .eql 3 p (.int .i64 0))) fun q=>aw [q])) fun r=>af (aj (aV m (ah r 0) (.bool false))) fun s=>aw (.tup [ah b 4,s]))
def XL114_0{call:CC}:dt (L114_0 call au) fun _n=>L114_0 call au  :=by
 intro a b c d;unfold L114_0;exact (lb fun _=>(aN (by(iterate 8 refine lb fun _=>?_);exact (aN (lb fun _=>c _) (c _))) (bu _)))
def FL114_0(call:CC)(vs:List AV):au (L114_0 call au) vs=L114_0 call au  (au (L114_0 call au)) vs:=cB (XL114_0) vs
def S114(call:CC)(fx:cQ AV)(a0 a1 a2:AV):M AV:=af (aj (bq T 23 a0)) fun a=>fx (L114_0 call fx) [a0,a1,a2,a,.int .i64 0,a]
def E114(a0 a1 a2:AV):EE 114 Tryz.f114 uZ [a0,a1,a2] (fun c x=>S114 c x a0 a1 a2):=fun _ _=>by kernel_rfl
def C114(a0 a1 a2:AV):ai pg 114 [a0,a1,a2]=S114 (ai pg) au a0 a1 a2:=(iv aW rfl rfl rfl _).trans (E114 a0 a1 a2 _ _)
def S115(call:CC)(fx:cQ AV)(a0 a1:AV):M AV:=af (aj (aa T 37 (.ip (ae a0)) 0)) fun a=>af (aj (am T 9 a)) fun b=>af (aj (az T .lss 9 b a1)) fun c=>aF c (aw (.int .i64 (-1))) (af (aj (aa T 37 (.ip (ae a0)) 0)) fun d=>af (aj (am T 9 d)) fun e=>af (aj (az T .gtr 9 e a1)) fun f=>aF f (aw (.int .i64 1)) (aw (.int .i64 0)))
def E115(a0 a1:AV):EE 115 Tryz.f115 vd [a0,a1] (fun c x=>S115 c x a0 a1):=fun _ _=>by kernel_rfl
def C115(a0 a1:AV):ai pg 115 [a0,a1]=aX (S115 (ai pg) au (cl aB a0) (cl aB a1)):=(aD aW rfl rfl rfl _).trans (Gb aX (E115 (cl aB a0) (cl aB a1) _ _))
def S130(call:CC)(fx:cQ AV)(a0 a1:AV):M AV:=af (call 164 [a0,a1]) fun a=>af (aj (az T .geq 3 a (.int .i64 0))) fun b=>aw b
def E130(a0 a1:AV):EE 130 Tryz.f130 vf [a0,a1] (fun c x=>S130 c x a0 a1):=fun _ _=>by kernel_rfl
def C130(a0 a1:AV):ai pg 130 [a0,a1]=aX (S130 (ai pg) au (cl aB a0) (cl aB a1)):=(aD aW rfl rfl rfl _).trans (Gb aX (E130 (cl aB a0) (cl aB a1) _ _))
def K167_0(call:CC)(fx:cQ AV)(a:List AV):M AV:=aF (ah a 0) (aw (.int .i64 (-1))) (aw (.int .i64 (-2)))
def K167_1(call:CC)(fx:cQ AV)(a:List AV):M AV:=aF (ah a 1) (aw (.int .i64 2)) (af (aj (az T .eql 3 (ah a 0) (.int .i64 11))) fun b=>aF b (aw (.int .i64 3)) (jn (K167_0 call fx) fun c=>af (aj (az T .eql 3 (ah a 0) (.int .i64 13))) fun d=>aF d (c [d]) (af (aj (az T .eql 3 (ah a 0) (.int .i64 15))) fun e=>c [e])))
def K167_2(call:CC)(fx:cQ AV)(a:List AV):M AV:=aF (ah a 1) (aw (.int .i64 1)) (jn (K167_1 call fx) fun b=>af (aj (az T .eql 3 (ah a 0) (.int .i64 3))) fun c=>aF c (b [ah a 0,c]) (af (aj (az T .eql 3 (ah a 0) (.int .i64 4))) fun d=>aF d (b [ah a 0,d]) (af (aj (az T .eql 3 (ah a 0) (.int .i64 5))) fun e=>aF e (b [ah a 0,e]) (af (aj (az T .eql 3 (ah a 0) (.int .i64 6))) fun f=>aF f (b [ah a 0,f]) (af (aj (az T .eql 3 (ah a 0) (.int .i64 7))) fun g=>aF g (b [ah a 0,g]) (af (aj (az T .eql 3 (ah a 0) (.int .i64 8))) fun h=>aF h (b [ah a 0,h]) (af (aj (az T .eql 3 (ah a 0) (.int .i64 9))) fun i=>aF i (b [ah a 0,i]) (af (aj (az T .eql 3 (ah a 0) (.int .i64 12))) fun j=>b [ah a 0,j]))))))))
def K167_3(call:CC)(fx:cQ AV)(a:List AV):M AV:=aF (ah a 1) (aw (.int .i64 0)) (jn (K167_2 call fx) fun b=>af (aj (az T .eql 3 (ah a 0) (.int .i64 10))) fun c=>aF c (b [ah a 0,c]) (af (aj (az T .eql 3 (ah a 0) (.int .i64 14))) fun d=>aF d (b [ah a 0,d]) (af (aj (az T .eql 3 (ah a 0) (.int .i64 16))) fun e=>aF e (b [ah a 0,e]) (af (aj (az T .eql 3 (ah a 0) (.int .i64 18))) fun f=>b [ah a 0,f]))))
def S167(call:CC)(fx:cQ AV)(a0:AV):M AV:=jn (K167_3 call fx) fun a=>af (aj (az T .eql 3 a0 (.int .i64 0))) fun b=>aF b (a [a0,b]) (af (aj (az T .eql 3 a0 (.int .i64 1))) fun c=>aF c (a [a0,c]) (af (aj (az T .eql 3 a0 (.int .i64 2))) fun d=>aF d (a [a0,d]) (af (aj (az T .eql 3 a0 (.int .i64 17))) fun e=>a [a0,e])))
def E167(a0:AV):EE 167 Tryz.f167 vo [a0] (fun c x=>S167 c x a0):=fun _ _=>by kernel_rfl
def C167(a0:AV):ai pg 167 [a0]=aX (S167 (ai pg) au (cl aB a0)):=(aD aW rfl rfl rfl _).trans (Gb aX (E167 (cl aB a0) _ _))
def S168(call:CC)(fx:cQ AV)(a0:AV):M AV:=af (aj (ct T false 45 [(0,.int .i64 0),(1,a0)])) fun a=>af (aK 4 [] a) fun b=>aw (.agg [ah (ae b) 0,ah (ae b) 1,ah (ae b) 2,ah (ae b) 3])
def E168(a0:AV):EE 168 Tryz.f168 vp [a0] (fun c x=>S168 c x a0):=fun _ _=>by kernel_rfl
def C168(a0:AV):ai pg 168 [a0]=aX (S168 (ai pg) au (cl aB a0)):=(aD aW rfl rfl rfl _).trans (Gb aX (E168 (cl aB a0) _ _))
def L212_0(call:CC)(fx:cQ AV)(a:RR)(b:List AV):M AV:=af (aj (az T .lss 3 (ah b 3) (ah b 2))) fun c=>aF c (af (aj (ay T 25 (ah b 0) (ah b 3))) fun d=>af (aj (am T 68 d)) fun e=>af (bJ call (ah b 1) [e]) fun f=>aF f (aw (ah b 3)) (af (aj (az T .add 3 (ah b 3) (.int .i64 1))) fun g=>a [ah b 0,ah b 1,ah b 2,g])) (aw (.int .i64 (-1)))
def XL212_0{call:CC}:dt (L212_0 call au) fun _n=>L212_0 call au  :=by
 intro a b c d;unfold L212_0;exact (lb fun _=>(aN (lb fun _=>(lb fun _=>(lb fun _=>(aN (bu _) (lb fun _=>c _))))) (bu _)))
def FL212_0(call:CC)(vs:List AV):au (L212_0 call au) vs=L212_0 call au  (au (L212_0 call au)) vs:=cB (XL212_0) vs
def S212(call:CC)(fx:cQ AV)(a0 a1:AV):M AV:=af (aj (bq T 25 a0)) fun a=>fx (L212_0 call fx) [a0,a1,a,.int .i64 0]
def E212(a0 a1:AV):EE 212 Tryz.f212 vw [a0,a1] (fun c x=>S212 c x a0 a1):=fun _ _=>by kernel_rfl
def C212(a0 a1:AV):ai pg 212 [a0,a1]=aX (S212 (ai pg) au (cl aB a0) (cl aB a1)):=(aD aW rfl rfl rfl _).trans (Gb aX (E212 (cl aB a0) (cl aB a1) _ _))
def L10_0(call:CC)(fx:cQ AV)(a:RR)(b:List AV):M AV:=af (aj (bq T 30 (ah b 0))) fun c=>af (aj (az T .lss 3 (ah b 1) c)) fun d=>af (ax d true 1 (af (aj (az T .lss 3 (ah b 1) (.int .i64 9))) fun e=>aw [e])) fun f=>af (aj (aV d (ah f 0) (.bool false))) fun g=>aF g (af (aj (ay T 30 (ah b 0) (ah b 1))) fun h=>af (aj (am T 45 h)) fun i=>af (call 42 [i,.int .i64 40,.int .i64 6]) fun j=>af (aj (az T .gtr 3 j (.int .i64 40))) fun k=>aF k (aw (.bool false)) (af (aj (az T .add 3 (ah b 1) (.int .i64 1))) fun l=>a [ah b 0,l])) (af (aj (bq T 30 (ah b 0))) fun m=>af (aj (az T .leq 3 m (.int .i64 8))) fun n=>aw n)
def XL10_0{call:CC}:dt (L10_0 call au) fun _n=>L10_0 call au  :=by
 intro a b c d;unfold L10_0;exact (lb fun _=>(lb fun _=>(lb fun _=>(lb fun _=>(aN (lb fun _=>(lb fun _=>(lb fun _=>(lb fun _=>(aN (bu _) (lb fun _=>c _)))))) (bu _))))))
def FL10_0(call:CC)(vs:List AV):au (L10_0 call au) vs=L10_0 call au  (au (L10_0 call au)) vs:=cB (XL10_0) vs
def S10(call:CC)(fx:cQ AV)(a0:AV):M AV:=fx (L10_0 call fx) [a0,.int .i64 0]
def E10(a0:AV):EE 10 Tryz.f10 zn [a0] (fun c x=>S10 c x a0):=fun _ _=>by kernel_rfl
def C10(a0:AV):ai pg 10 [a0]=aX (S10 (ai pg) au (cl aB a0)):=(aD aW rfl rfl rfl _).trans (Gb aX (E10 (cl aB a0) _ _))
def S55(call:CC)(fx:cQ AV)(a0 a1:AV):M AV:=af (aj (aa T 35 (.ip (ae a0)) 0)) fun a=>af (aj (am T 3 a)) fun b=>af (aj (aa T 45 (.ip (ae a1)) 0)) fun c=>af (aj (am T 3 c)) fun d=>af (aj (az T .eql 3 b d)) fun e=>af (ax e true 1 (af (aj (aa T 35 (.ip (ae a0)) 1)) fun f=>af (aj (am T 23 f)) fun g=>af (call 96 [g,.fn (Fn.func 97) [] [.ip (ae a1)]]) fun h=>af (aj (iq UnOp.not h)) fun i=>aw [i])) fun j=>af (aj (aV e (ah j 0) (.bool false))) fun k=>aw k
def E55(a0 a1:AV):EE 55 Tryz.f55 zy [a0,a1] (fun c x=>S55 c x a0 a1):=fun _ _=>by kernel_rfl
def C55(a0 a1:AV):ai pg 55 [a0,a1]=aX (S55 (ai pg) au (cl aB a0) (cl aB a1)):=(aD aW rfl rfl rfl _).trans (Gb aX (E55 (cl aB a0) (cl aB a1) _ _))
def S96(call:CC)(fx:cQ AV)(a0 a1:AV):M AV:=af (call 81 [a0,a1]) fun a=>af (aj (az T .geq 3 a (.int .i64 0))) fun b=>aw b
def E96(a0 a1:AV):EE 96 Tryz.f96 zG [a0,a1] (fun c x=>S96 c x a0 a1):=fun _ _=>by kernel_rfl
def C96(a0 a1:AV):ai pg 96 [a0,a1]=aX (S96 (ai pg) au (cl aB a0) (cl aB a1)):=(aD aW rfl rfl rfl _).trans (Gb aX (E96 (cl aB a0) (cl aB a1) _ _))
def S158(call:CC)(fx:cQ AV)(a0:AV):M AV:=af (aj (az T .eql 9 a0 (.str []))) fun a=>af (ax a false 1 (af (aj (dM T 9 a0 (.int .i64 0))) fun b=>af (call 205 [b]) fun c=>af (aj (iq UnOp.not c)) fun d=>aw [d])) fun e=>af (aj (aV a (.bool true) (ah e 0))) fun f=>af (ax f false 1 (af (aj (bq T 9 a0)) fun g=>af (aj (az T .gtr 3 g (.int .i64 20))) fun h=>aw [h])) fun i=>af (aj (aV f (.bool true) (ah i 0))) fun j=>aF j (aw (.bool false)) (af (call 206 [a0,.fn (Fn.func 207) [] []]) fun k=>af (aj (bq T 9 a0)) fun l=>af (aj (az T .eql 3 k l)) fun m=>aw m)
def E158(a0:AV):EE 158 Tryz.f158 vk [a0] (fun c x=>S158 c x a0):=fun _ _=>by kernel_rfl
def C158(a0:AV):ai pg 158 [a0]=aX (S158 (ai pg) au (cl aB a0)):=(aD aW rfl rfl rfl _).trans (Gb aX (E158 (cl aB a0) _ _))
end
end Go.Proofs.YtihmmkncokjbaaaGreatDoor
