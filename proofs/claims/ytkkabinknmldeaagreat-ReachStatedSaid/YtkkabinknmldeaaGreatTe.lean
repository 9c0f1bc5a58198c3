/- What the functions of the seat compute, part 5: the texts of the claim, one behind the other. Conditions: bounds, as each theorem names them. -/
import Derived.Test.YtkkabinknmldeaaGreatTd
import Derived.Test.YtkkabinknmldeaaGreatTb
import Derived.Test.YtkkabinknmldeaaGreatLd
import Derived.Tactics
import Derived.Tactics2
import Derived.Defers
import Derived.Recover
import Derived.Test.YtkkabinknmldeaaGreatLc
import Derived.RangeFuncNested
import Derived.RangeFuncBound
import Derived.RangeFuncCalls
import Derived.RangeFuncLeaves
import Derived.RangeFuncBox
import Derived.Shelf.Abstract
import Derived.Shelf.RegionOpen
import Derived.WalkKit
import Derived.OwnWalkIn
import Derived.TacticsInMore
import Derived.LoopNIn
import Derived.LoopIn
import Derived.Test.YtkkabinknmldeaaGreatLa
import Derived.Test.YtkkabinknmldeaaGreatProg
import Derived.Shelf.SlSortCmp.NoneTotal
import Derived.Test.YtkkabinknmldeaaGreatRows
import Derived.Shelf.Vars
import Derived.ProofKit
import Derived.Deep.DeepHandedRow
import Derived.Deep.DeepWitnessRowRef
import Derived.Deep.DeepLaidRun
set_option linter.unusedSimpArgs false
set_option linter.unusedVariables false
namespace Go.Proofs.YtkkabinknmldeaaGreat
open Go Go.Av Go.Av.Ap Go.RowKit Go.Shelf Go.Sort
attribute [local go_sem] Oper.semAt_some
set_option maxRecDepth 100000
theorem Ki(F:Fence)(n:Nat)(h2:F.fn 185)(h3:F.fn 261)(hro:F.round=none)(hn:4≤n)(g:Nat)(lb:Array Value)(hFg:F.fn g)(eg:∀ args w,(callFunc g args).run Tryz.prog w= .ok (.enter g args) w)(S Sp:List eV→Prop)(N:Nat)(hN:N≤1000000) (w:World)
  (hseq:SeqStopsK F (n - 1 - 1) Tryz.prog g lb (fun x:eV=>#[iL x]) KeepsWalks S Sp N w):
  CallsIn F n Tryz.prog 185 #[.func (.func g) #[] lb] w fun e w'=>∃ v ss,e= .returned v∧S ss∧w'.ownsRow w.heap.size 65 2 v ss.length (ss.flatMap iy)∧(v= .slice none 0 0↔ss=[])∧Below w.heap.size w w':=by
 have h1:1≤n:=by omega
 refine callsIn_of_wp Tryz.func185 rfl h2 ?_ hro
 simp only[Tryz.ntmps185,List.size_toArray,List.length_cons,List.length_nil,Nat.reduceAdd,Nat.reduceSub,Array.replicate_succ,Array.replicate_zero,List.push_toArray,List.append_toArray,List.nil_append,List.cons_append]
 gi_wp2_with (gi_at_call 261;refine (J4 F (n - 1) h3 hro (by omega) g lb hFg eg S Sp N hN _ hseq).mono ?_;rintro e w' ⟨v,ss,rfl,hS,hrow,hnil,hb⟩)
 go_ret
 exact⟨v,ss,rfl,hS,hrow,hnil,hb⟩
def eh(x:eV):aD:=(x.1.data.toList,x.2.data.toList)
theorem Ee(x:eV):dj (eh x)=iy x:=by
 simp only[dj,eh,iy,str_eq (rfl:x.1.data.toList=_),str_eq (rfl:x.2.data.toList=_)]
theorem GJ(ss:List eV):((ss.map eh).map dj).flatten=ss.flatMap iy:=by
 rw[List.map_map,List.flatMap_def]
 exact congrArg List.flatten (List.map_congr_left fun x _=>Ee x)
theorem zJ{w:World}{b n₀:Nat}(enc:aD→List Value)(k off n:Nat)(d:Array aD)(os:Array Obj)(hb:n₀≤b)(hn:n₀≤w.heap.size):Below n₀ w (sortWorldK enc k w b off n d os):=by
 have hg:=rR (w:=w) (b:=b) enc k off n d os
 exact⟨hg.os,hg.tape,hg.out,hg.size,fun i hi=>iO enc k off n d os (by omega) (by omega)⟩
theorem zB{W:World}{base n:Nat}{v:Value}{ss:List eV}(h:W.ownsRow base 65 2 v n (ss.flatMap iy))(hn:n=ss.length)(hne:ss≠[]):
  ∃ b cap cur,v= .slice (some ⟨b,0,none⟩) n cap∧base≤b∧W.heap[b]? = some (.cells cur 65 (0,0))∧n≤cap∧cur.size=cap * 2∧HoldsK dj 2 W b 0 (ss.map eh).toArray:=by
 rcases h.2 with ⟨_,h0⟩ | ⟨b,cap,cur,hv,hb,hc,h1,_,h2,h3⟩
 ·exact absurd (List.length_eq_zero_iff.1 (hn▸h0)) hne
 ·refine⟨b,cap,cur,hv,hb,hc,h1,h2,fun j hj=>?_⟩
  have hfl:=fT dj 2 (fun _=>rfl) (by decide) (ss.map eh).toArray
  have hsz:(flatK dj 2 (ss.map eh).toArray).size=ss.length * 2:=by rw[size_flatK];simp
  rw[hsz] at hj
  have hjc:j < cur.size:=by rw[h2];omega
  have e1:(flatK dj 2 (ss.map eh).toArray)[j]! = cur[j]:=by
   have g1:(flatK dj 2 (ss.map eh).toArray).toList[j]? = cur.toList[j]?:=by
    rw[hfl,show (ss.map eh).toArray.toList=ss.map eh from rfl,GJ,← h3,List.getElem?_take,if_pos (by omega)]
   rw[Array.getElem?_toList,Array.getElem?_toList,Array.getElem?_eq_getElem (by omega),Array.getElem?_eq_getElem hjc] at g1
   rw[getElem!_pos _ j (by omega)]
   exact Option.some.inj g1
  rw[e1,Nat.zero_add]
  exact⟨by simp[World.cell?,hc,hjc],by simp[World.frozen?,hc]⟩
set_option maxHeartbeats 1000000 in
theorem uZ(g:Nat)(lb:Array Value)(eg:∀ args w,(callFunc g args).run Tryz.prog w= .ok (.enter g args) w)(S Sp:List eV→Prop)(N:Nat)(hN:N≤1000000)(hS1:∀ ss,S ss→ss.length=N)(w:World) (hgok:GOKw w)
  (hseq:∀ n,5≤n→SeqStopsK Fence.wide n Tryz.prog g lb (fun x:eV=>#[iL x]) KeepsWalks S Sp N w):
  Calls Tryz.prog 85 #[.func (.func g) #[] lb,.func (.func 89) #[] #[]] w fun e w'=>∃ v ss,e= .returned v∧S ss∧Below w.heap.size w w'∧
   ((ss=[]∧v= .slice none 0 0)∨∃ b cap x,v= .slice (some ⟨b,0,none⟩) ss.length cap∧ss.length≤cap∧w.heap.size≤b∧Row w' b x∧x.size=cap * 2∧x.toList.take (ss.length * 2)=((cY (ss.map eh)).map dj).flatten):=by
 rw[← callsIn_wide (n:=20)]
 have h1:1≤20:=by decide
 have f1:Fence.wide.fn 185:=trivial
 have f2:Fence.wide.fn 180:=trivial
 have hcol:=Ki Fence.wide 19 trivial trivial rfl (by decide) g lb trivial eg S Sp N hN w (hseq _ (by decide))
 refine callsIn_of_wp Tryz.func85 rfl trivial ?_ rfl
 simp only[Tryz.ntmps85,List.size_toArray,List.length_cons,List.length_nil,Nat.reduceAdd,Nat.reduceSub,Array.replicate_succ,Array.replicate_zero,List.push_toArray,List.append_toArray,List.nil_append,List.cons_append]
 gi_wp2_with (gi_at_call 185;refine hcol.mono ?_;rintro e w1 ⟨v,ss,rfl,hS,hrow,hnil,hb⟩)
 by_cases hss:ss=[]
 ·have hv:=hnil.2 hss
  subst hv hss
  have hsrt:CallsIn Fence.wide 19 Tryz.prog 180 #[.slice none 0 0,.func (.func 89) #[] #[]] w1 _:=callsIn_wide.2 (AnyF.slices_SortFunc_none Tryz.laysSort none 0 (.func (.func 89) #[] #[]) w1)
  gi_wp2_with (gi_at_call 180;refine hsrt.mono ?_;rintro e w2 ⟨rfl,rfl⟩)
  go_ret
  exact⟨_,[],rfl,hS,hb,.inl ⟨rfl,rfl⟩⟩
 ·obtain⟨b,cap,cur,rfl,hbb,hcur,hcap,hcs,hH⟩:=zB hrow rfl hss
  have hbl:b < w1.heap.size:=(Array.getElem?_eq_some_iff.1 hcur).1
  have hsl:ss.length < 4611686018427387904:=by rw[hS1 ss hS];omega
  have hg1:GOKw w1:=hgok.mono fun k hk=>hb.block k (Nat.lt_of_lt_of_le hk hgok.lt)
  have hsrt0:=rQ w1 b 0 cap (ss.map eh).toArray hg1 (Nat.le_trans hgok.lt hbb) hH hbl (by simpa using hsl)
  rw[show (ss.map eh).toArray.size=ss.length by simp] at hsrt0
  have hsrt:CallsIn Fence.wide 19 Tryz.prog 180 #[.slice (some ⟨b,0,none⟩) ss.length cap,.func (.func 89) #[] #[]] w1 _:=callsIn_wide.2 hsrt0
  gi_wp2_with (gi_at_call 180;refine hsrt.mono ?_;rintro e w2 ⟨rfl,m,os,rfl⟩)
  go_ret
  have hrow1:Row w1 b cur:=⟨_,hcur⟩
  rw[oB]
  have hlen:(cY (ss.map eh)).length=ss.length:=by rw[io];simp
  have hfl:=fT dj 2 (fun _=>rfl) (by decide) (cY (ss.map eh)).toArray
  have hfs:(flatK dj 2 (cY (ss.map eh)).toArray).size=ss.length * 2:=by rw[size_flatK];simp[hlen]
  have hr2:=rS hrow1 dj 2 0 m (cY (ss.map eh)).toArray os (by rw[hcs];simp[hlen];omega)
  refine⟨_,ss,rfl,hS,hb.trans (zJ dj 2 0 m _ os hbb hb.size),.inr ⟨b,cap,_,rfl,hcap,hbb,hr2,?_,?_⟩⟩
  ·simp only[List.take_zero,List.nil_append,Nat.zero_add,List.size_toArray,List.length_append,Array.length_toList,List.length_drop,hfs,hcs]
   omega
  ·have hll:(flatK dj 2 (cY (ss.map eh)).toArray).toList.length=ss.length * 2:=by rw[Array.length_toList];exact hfs
   show List.take (ss.length * 2) (List.take 0 _++_++_)=_
   rw[List.take_zero,List.nil_append]
   refine (List.take_append_of_le_length (Nat.le_of_eq hll.symm)).trans ?_
   refine (List.take_of_length_le (Nat.le_of_eq hll)).trans hfl
theorem GU{S:au}{β:List bn}:{es:List AV} →{ents:List MapEntry} →{ks:List aD} →ir S β es ents→es.mapM wP=some ks→∃ rs:List eV,rs.map eh=ks∧ents.map (·.key)=rs.map iL:=by
 intro es
 induction es with
 | nil=>
  intro ents ks h hk
  have hl:=h.1
  simp at hl hk
  subst hk
  cases ents with
  | nil=>exact⟨[],rfl,rfl⟩
  | cons x r=>simp at hl
 | cons e es ih=>
  intro ents ks h hk
  cases ents with
  | nil=>have:=h.1;simp at this
  | cons x ents=>
   rw[List.mapM_cons] at hk
   cases h1:wP e with
   | none=>rw[h1] at hk;cases hk
   | some k=>
    cases h2:es.mapM wP with
    | none=>rw[h1,h2] at hk;cases hk
    | some ks'=>
     rw[h1,h2] at hk
     simp only[Option.pure_def,Option.bind_eq_bind,Option.bind_some,Option.some.injEq] at hk
     subst hk
     obtain⟨rs,hr1,hr2⟩:=ih (ents:=ents) ⟨by have:=h.1;simpa using this,fun i a y ha hy=>h.2 (i + 1) a y (by simpa using ha) (by simpa using hy)⟩ h2
     obtain⟨kk,vv,rfl,hkk,_⟩:=h.2 0 e x rfl rfl
     unfold wP at h1
     split at h1
     ·rename_i a b v he
      simp only[AV.tup.injEq,List.cons.injEq,and_true] at he
      obtain⟨rfl,rfl⟩:=he
      simp only[Option.some.injEq] at h1
      subst h1
      simp only[VR,aM] at hkk
      obtain⟨_,hx,_,_,rfl,⟨y1,rfl,hy1⟩,_,_,rfl,⟨y2,rfl,hy2⟩,rfl⟩:=hkk
      refine⟨(y1,y2):: rs,?_,?_⟩
      ·simp only[List.map_cons,eh,hy1,hy2,hr1]
      ·simp only[List.map_cons,hr2,hx,iL]
     ·cases h1
theorem Hx{S:au}{β:List bn}{b cap:Nat}{x:Array Value}{l:List aD}(hl:l.length≤cap)(hx:x.size=cap * 2)(ht:x.toList.take (l.length * 2)=(l.map dj).flatten):
  VR (S.withRowTo b x.size x) β (aU l) (.slice (some ⟨b,0,none⟩) l.length cap):=by
 simp only[aU,VR,List.length_map]
 refine⟨some ⟨b,0,none⟩,cap,rfl,hl,(fun h=>by cases h),fun q hq=>?_⟩
 simp only[Option.some.injEq] at hq
 subst hq
 refine⟨fun _=>rfl,2,.of_get fun i e he=>?_⟩
 rw[List.getElem?_map] at he
 cases hi:l[i]? with
 | none=>rw[hi] at he;cases he
 | some r=>
  rw[hi] at he
  simp only[Option.map_some,Option.some.injEq] at he
  subst he
  have hil:=dt hi
  refine⟨.agg (dj r).toArray,zU _ _ r,rfl,fun j v hj=>?_⟩
  have hj2:j < 2:=by
   have:=dt hj
   simpa [Value.cells,dj] using this
  have hg:(l.map dj).flatten[i * 2 + j]? = some v:=by
   rw[ku dj 2 (fun _=>rfl) (by decide),show (i * 2 + j) / 2=i by omega,show (i * 2 + j) % 2=j by omega,hi]
   simpa [Value.cells] using hj
  rw[← ht,List.getElem?_take,if_pos (by omega),Array.getElem?_toList] at hg
  unfold au.withRowTo
  dsimp only
  rw[if_pos rfl,if_pos (by omega),Nat.zero_add]
  exact hg
theorem Ns (call:FuncId→List AV→M AV) (args:List AV) (h:Hp) (S:au) (β:List bn) (w:World) (vs:List Value) (hr:lx [186,295] 89 call args h≠.fail) (hg:sa β h w) (hw:Wf S w) (hh:ca S β w h) (hv:aM S β args vs):
  Calls Tryz.prog 85 vs.toArray w (dl none S β h w (lx [186,295] 89 call args h)):=by
 unfold lx at hr ⊢
 split at hr
 ·rename_i g x o'
  cases hb:eD [186,295] g&&Nat.beq 89 o' with
  | false=>rw[hb] at hr;exact absurd rfl hr
  | true =>
   rw[hb] at hr
   simp only[cond_true] at hr ⊢
   cases hes:gq h x with
   | none=>rw[hes] at hr;exact absurd rfl hr
   | some es=>
    rw[hes] at hr
    simp only at hr ⊢
    cases hks:es.mapM wP with
    | none=>rw[hks] at hr;exact absurd rfl hr
    | some ks=>
     rw[hks] at hr
     simp only at hr ⊢
     by_cases hlen:ks.length≤1000000
     ·rw [if_pos hlen] at hr ⊢
      simp only[Bool.and_eq_true] at hb
      have ho:o'=89:=(Nat.eq_of_beq_eq_true hb.2).symm
      subst ho
      simp only[aM,VR] at hv
      obtain⟨_,_,rfl,⟨_,_,rfl,rfl,_,_,rfl,⟨Bm,Bo,cs,rfl,⟨xv,_,rfl,hxv,rfl⟩,hcell⟩,rfl⟩,_,_,rfl,⟨_,_,rfl,rfl,rfl⟩,rfl⟩:=hv
      have hBs:S Bm Bo=some xv:=hcell 0 xv rfl
      have hBc:=hw _ _ _ hBs
      have hBl:=hw.lt hBs
      have hh0:=hh
      obtain⟨_,ω,hH⟩:=hh
      have hkeys:∃ rs:List eV,rs.map eh=ks∧((w.cell? ⟨Bm,Bo,none⟩=some (.map none)∧rs=[])∨∃ b es clock,w.cell? ⟨Bm,Bo,none⟩=some (.map (some b))∧w.heap[b]? = some (.map es clock)∧iw es.toList clock∧es.toList.map (·.key)=rs.map iL):=by
       unfold gq at hes
       split at hes
       ·rename_i l
        split at hes
        ·rename_i es' hl
         simp only[Option.some.injEq] at hes
         subst hes
         simp only[VR] at hxv
         obtain⟨⟨b,z⟩,hbl,h0,rfl⟩:=hxv
         simp only at h0
         subst h0
         obtain⟨ents,clock,g1,g2,g3,_⟩:=hH.mapRow hl hbl
         obtain⟨rs,r1,r2⟩:=GU g2 hks
         exact⟨rs,r1,.inr ⟨b,ents,clock,hBc,g1,g3,r2⟩⟩
        ·cases hes
       ·simp only[Option.some.injEq] at hes
        subst hes
        simp only[VR] at hxv
        subst hxv
        simp at hks
        subst hks
        exact⟨[],rfl,.inl ⟨hBc,rfl⟩⟩
       ·cases hes
      obtain⟨rs,hrs,hc⟩:=hkeys
      have hgen:∀ g',(∀ args w,(callFunc g' args).run Tryz.prog w= .ok (.enter g' args) w)→
        (∀ n,5≤n→SeqStopsK Fence.wide n Tryz.prog g' #[.pointer (some ⟨Bm,Bo,none⟩)] (fun x:eV=>#[iL x]) KeepsWalks (fun ss=>ss.Perm rs) (fun _=>True) rs.length w)→
        Calls Tryz.prog 85 #[.func (.func g') #[] #[.pointer (some ⟨Bm,Bo,none⟩)],.func (.func 89) #[] #[]] w (dl none S β h w (.ok (aU (cY ks)) h)):=by
       intro g' eg hseq
       refine (uZ g' _ eg _ _ rs.length (by rw[← hrs] at hlen;simpa using hlen) (fun ss hs=>hs.length_eq) w hg.1 hseq).mono ?_
       rintro e w' ⟨v,ss,rfl,hS,hB,hres⟩
       have hso:cY ks=cY (ss.map eh):=by rw[← hrs];exact lH (hS.map eh).symm
       rcases hres with ⟨rfl,rfl⟩ | ⟨b,cap,y,rfl,h1,h2,h3,h4,h5⟩
       ·refine eI hw hh0 hB uL ?_
        rw[hso]
        simp only[List.map_nil,cY,aU,VR,List.length_nil]
        exact⟨none,0,rfl,Nat.le_refl _,fun _=>rfl,fun q hq=>by cases hq⟩
       ·have hl2:(cY (ss.map eh)).length=ss.length:=by rw[io];simp
        refine BC hw hh0 hB uL h3 h2 ?_
        rw[hso]
        have:=Hx (S:=S) (β:=β) (b:=b) (cap:=cap) (x:=y) (l:=cY (ss.map eh)) (by omega) h4 (by rw[hl2];exact h5)
        rw[hl2] at this
        exact this
      have hg2:g=186∨g=295:=by
       have:=hb.1
       simp only[eD] at this
       rcases Bool.eq_false_or_eq_true (Nat.beq 186 g) with h1 | h1
       ·exact .inl (Nat.eq_of_beq_eq_true h1).symm
       ·rw[h1] at this
        rcases Bool.eq_false_or_eq_true (Nat.beq 295 g) with h2 | h2
        ·exact .inr (Nat.eq_of_beq_eq_true h2).symm
        ·first
          | (rw[h2] at this;cases this)
          | cases this
      rcases hg2 with rfl | rfl
      ·exact hgen 186 (enters_of Tryz.func186 (by kernel_rfl) rfl) fun n hn=>sx Fence.wide n trivial rfl (by omega) Bm Bo rs w hBl hc
      ·exact hgen 295 (enters_of Tryz.func295 (by kernel_rfl) rfl) fun n hn=>sy Fence.wide n trivial rfl (by omega) Bm Bo rs w hBl hc
     ·rw[if_neg hlen] at hr;exact absurd rfl hr
 ·exact absurd rfl hr
end Go.Proofs.YtkkabinknmldeaaGreat
namespace Go.Proofs.YtkkabinknmldeaaGreat
open Go Go.Av
set_option maxRecDepth 100000
noncomputable def sb (n:Nat) (a:Ann):Cx:={ T:=T,call:=fun _ _=>M.fail,own:=own,iso:=fun _=>false,nw:=fun _=>false,nt:=n,ann:=a }
theorem kY(n:Nat)(a:Ann):cM Tryz.prog (sb n a).own (sb n a).call:=fun f args h S β w vs hr=>absurd rfl hr
theorem pI(n:Nat)(a:Ann):IsoCall (sb n a):=⟨fun f args h=>Bool.noConfusion h,fun f args h=>Bool.noConfusion h⟩
theorem MO(e:AV)(es:List AV):bM (sb Tryz.f166.ntmps ua) (cO 0) Tryz.f166 none [.sl (e:: es)]=ae (appH T 47 true (.sl []) (.sl (e:: es))) fun v=>ae (ah (some v)) M.pure:=by kernel_rfl
theorem MP:bM (sb Tryz.f166.ntmps ua) (cO 0) Tryz.f166 none [.hn]=ae (ah (some (.sl []))) M.pure:=by kernel_rfl
theorem MQ(l off:Nat):bM (sb Tryz.f166.ntmps ua) (cO 0) Tryz.f166 none [.hs l off 0 1 false]=ae (appH T 47 true (.sl []) (.hs l off 0 1 false)) fun v=>ae (ah (some v)) M.pure:=by kernel_rfl
theorem MR(e:AV)(es:List AV):bM (sb Tryz.f309.ntmps uc) (cO 0) Tryz.f309 none [.sl (e:: es)]=ae (ah (dL T 22 (.sl []) (.sl (e:: es)))) fun v=>ae (ah (some v)) M.pure:=by kernel_rfl
theorem MS:bM (sb Tryz.f309.ntmps uc) (cO 0) Tryz.f309 none [.hn]=ae (ah (some (.sl []))) M.pure:=by kernel_rfl
theorem MU(l off:Nat):bM (sb Tryz.f309.ntmps uc) (cO 0) Tryz.f309 none [.hs l off 0 1 false]=ae (ah (dL T 22 (.sl []) (.hs l off 0 1 false))) fun v=>ae (ah (some v)) M.pure:=by kernel_rfl
theorem MV(l off:Nat):dL T 22 (.sl []) (.hs l off 0 1 false)=some (.sl []):=by rfl
theorem KW(call:FuncId→List AV→M AV)(args:List AV)(h:Hp)(S:au)(β:List bn)(w:World)(vs:List Value)(hr:dJ T 47 call args h≠.fail)(hg:sa β h w)(hw:Wf S w)(hh:ca S β w h)(hv:aM S β args vs):
  Calls Tryz.prog 166 vs.toArray w (dl none S β h w (dJ T 47 call args h)):=by
 have key:∀ es,args=[.sl es]→Calls Tryz.prog 166 vs.toArray w (dl none S β h w (dJ T 47 call args h)):=by
  rintro es rfl
  exact (iV (cx:=sb Tryz.f166.ntmps ua) (E:=fun es h=>dJ T 47 call [.sl es] h) tok (kY _ _) (pI _ _) Tryz.func166 rfl (fun h=>by rfl) (fun e es h=>by rw[MO];exact congrFun (ui _) h) (fun h=>by rw[MP];rfl) (fun l off h=>by rw[MQ];rfl) hr hg hw hh hv).1
 unfold dJ at hr
 split at hr
 ·exact key _ rfl
 ·exact absurd rfl hr
theorem KY(call:FuncId→List AV→M AV)(args:List AV)(h:Hp)(S:au)(β:List bn)(w:World)(vs:List Value)(hr:fe T 22 call args h≠.fail)(hg:sa β h w)(hw:Wf S w)(hh:ca S β w h)(hv:aM S β args vs):
  Calls Tryz.prog 309 vs.toArray w (dl none S β h w (fe T 22 call args h)):=by
 have key:∀ es,args=[.sl es]→Calls Tryz.prog 309 vs.toArray w (dl none S β h w (fe T 22 call args h)):=by
  rintro es rfl
  exact (iV (cx:=sb Tryz.f309.ntmps uc) (E:=fun es h=>fe T 22 call [.sl es] h) tok (kY _ _) (pI _ _) Tryz.func309 rfl (fun h=>by rfl) (fun e es h=>by rw[MR];exact congrFun (ui _) h) (fun h=>by rw[MS];rfl) (fun l off h=>by rw[MU,MV];rfl) hr hg hw hh hv).1
 unfold fe at hr
 split at hr
 ·exact key _ rfl
 ·exact absurd rfl hr
def L1:Prop:=∀ call,cM Tryz.prog own call→∀(args:List AV)(h:Hp)(S:au)(β:List bn)(w:World)(vs:List Value),zP 33 .i64 (.agg [.int .i64 0,.int .i64 0,.sl [],.sl []]) call args h≠.fail→sa β h w→Wf S w→ca S β w h→aM S β args vs→
 Calls Tryz.prog 167 vs.toArray w (dl none S β h w (zP 33 .i64 (.agg [.int .i64 0,.int .i64 0,.sl [],.sl []]) call args h))
end Go.Proofs.YtkkabinknmldeaaGreat
namespace Go.Proofs.YtkkabinknmldeaaGreat
open Go Go.Av
theorem yG(p q:Addr)(w:World):CallsD Tryz.prog 244 #[.pointer (some p),.pointer (some q)] .returning w fun e u' w'=>e= .returned (.tuple #[])∧u'= .returning∧w'=w:=by
 refine callsD_of_wpS Tryz.func244 rfl fun c₀ cs hu=>?_
 apply wpS_seq
 apply wpS_region
 simp[wpOpsS,go_sem,recoverD,hu,Tryz.ntmps244,Exit.thenS]
 refine wpS_of_wp ?_
 go_wp2
 cases c₀
 simp_all[bodyPostS,results,Tryz.results244]
theorem DF(n:Int)(w:World):(Instr.typeAssert (.iface 33 (.int .i64 n)) 20 33 true).run Tryz.prog w= .ok (.tuple #[.int .i64 n,.bool true]) w:=by kernel_rfl
theorem J7(w:World):(Instr.build 51 #[]).run Tryz.prog w= .ok (.agg #[.int .i64 0,.int .i64 0,.slice none 0 0,.slice none 0 0]) w:=by
 obtain⟨v,h1,h2⟩:=vP (P:=Tryz.prog) (T:=T) (w:=w) (S:=fun _ _=>none) (β:=[]) (told:=true) (t:=51) (parts:=[]) (r:=.agg [.int .i64 0,.int .i64 0,.hn,.hn]) (qs:=#[]) tok rfl rfl
 rw[h1]
 simp only[VR,aM] at h2
 obtain⟨vs,rfl,a,_,rfl,rfl,b,_,rfl,rfl,c,_,rfl,rfl,d,_,rfl,rfl,rfl⟩:=h2
 rfl
set_option maxHeartbeats 4000000 in
set_option maxRecDepth 100000 in
theorem Bt(b c:Nat)(x0 x1 x2 x3 y0:Value)(n:Int)(w:World)(c0:w.cell? ⟨b,0,none⟩=some x0)(c1:w.cell? ⟨b,1,none⟩=some x1)(c2:w.cell? ⟨b,2,none⟩=some x2) (c3:w.cell? ⟨b,3,none⟩=some x3)
  (d0:w.cell? ⟨c,0,none⟩=some y0) (f0:w.frozen? ⟨b,0,none⟩=false) (f1:w.frozen? ⟨b,1,none⟩=false) (f2:w.frozen? ⟨b,2,none⟩=false) (f3:w.frozen? ⟨b,3,none⟩=false) (g0:w.frozen? ⟨c,0,none⟩=false) (hne:¬ b=c) (hne':¬ c=b):
  CallsD Tryz.prog 244 #[.pointer (some ⟨b,0,none⟩),.pointer (some ⟨c,0,none⟩)] (.panicking [{ v:=.iface 33 (.int .i64 n),recovered:=false }]) w fun e u' w'=>
   e= .returned (.tuple #[])∧u'= .panicking [{ v:=.iface 33 (.int .i64 n),recovered:=true }]∧w'=((((w.setCell ⟨b,0,none⟩ (.int .i64 0)).setCell ⟨b,1,none⟩ (.int .i64 0)).setCell ⟨b,2,none⟩ (.slice none 0 0)).setCell ⟨b,3,none⟩ (.slice none 0 0)).setCell ⟨c,0,none⟩ (.int .i64 n):=by
 refine callsD_of_wpS Tryz.func244 rfl fun c₀ cs hu=>?_
 apply wpS_seq
 apply wpS_region
 simp[wpOpsS,go_sem,recoverD,hu,Tryz.ntmps244,Exit.thenS]
 refine wpS_of_wp ?_
 have h1:=DF n
 have h2:=J7
 go_wp2
 cases c₀
 simp_all[bodyPostS,results,Tryz.results244]
end Go.Proofs.YtkkabinknmldeaaGreat
namespace Go.Proofs.YtkkabinknmldeaaGreat
open Go Go.Av
set_option maxRecDepth 100000
def oE(w:World):World:=(w.alloc (Obj.cells #[Value.int IntKind.i64 0,Value.int IntKind.i64 0,Value.slice none 0 0,Value.slice none 0 0] 51)).alloc (Obj.cells #[Value.int IntKind.i64 0] 33)
def zQ(w w':World)(u0 u1 u2 u3 e:Value):World:=((((w'.setCell ⟨w.heap.size,0,none⟩ u0).setCell ⟨w.heap.size,1,none⟩ u1).setCell ⟨w.heap.size,2,none⟩ u2).setCell ⟨w.heap.size,3,none⟩ u3).setCell ⟨w.heap.size + 1,0,none⟩ e
def PG(w:World)(R:Ending→World→Prop):Ending→World→Prop:=fun e w'=>
 w'.heap[w.heap.size]? = (oE w).heap[w.heap.size]? ∧w'.heap[w.heap.size + 1]? = (oE w).heap[w.heap.size + 1]? ∧
 ((∃ u0 u1 u2 u3:Value,u0.oneCell'=true∧u1.oneCell'=true∧u2.oneCell'=true∧u3.oneCell'=true∧e= .returned (.agg #[u0,u1,u2,u3])∧R (.returned (.tuple #[.agg #[u0,u1,u2,u3],.int .i64 0])) (zQ w w' u0 u1 u2 u3 (.int .i64 0)))∨
  ∃ n,e= .panicked [{ v:=.iface 33 (.int .i64 n),recovered:=false }]∧R (.returned (.tuple #[.agg #[.int .i64 0,.int .i64 0,.slice none 0 0,.slice none 0 0],.int .i64 n])) (zQ w w' (.int .i64 0) (.int .i64 0) (.slice none 0 0) (.slice none 0 0) (.int .i64 n)))
set_option maxHeartbeats 4000000 in
theorem FG(g:FuncId)(x y:Array Value)(w:World)(R:Ending→World→Prop) (hfn:(Tryz.prog.funcs[g]?).any (fun fn=>fn.body.isSome && !(fn.name== "runtime.NumGoroutine"))=true)
  (hc:Calls Tryz.prog g (x++y) (oE w) (PG w R)):Calls Tryz.prog 167 #[.func (.func g) x y] w R:=by
 have hmf:∀(fn:Fn)(first cap:Array Value)(w:World),(Instr.makeFunc fn first cap).run Tryz.prog w= .ok (.func fn first cap) w:=fun _ _ _ _=>rfl
 go_enter_defers Tryz.func167,Tryz.ntmps167
 go_wp2
 rw[gT hfn,Oper.upon_enter]
 refine hc.mono fun e w' h=>?_
 obtain⟨k0,k1,h⟩:=h
 have r0:w'.heap[w.heap.size]? = some (.cells #[Value.int IntKind.i64 0,Value.int IntKind.i64 0,Value.slice none 0 0,Value.slice none 0 0] 51):=by rw[k0];exact (Go.Av.alloc_old _ _ (by simp)).trans (heap_alloc_new w _)
 have r1:w'.heap[w.heap.size + 1]? = some (.cells #[Value.int IntKind.i64 0] 33):=by rw[k1];have:=heap_alloc_new (w.alloc (Obj.cells #[Value.int IntKind.i64 0,Value.int IntKind.i64 0,Value.slice none 0 0,Value.slice none 0 0] 51)) (Obj.cells #[Value.int IntKind.i64 0] 33);rwa [World.size_alloc] at this
 have c0:w'.cell? ⟨w.heap.size,0,none⟩=some (.int .i64 0):=by simp[World.cell?,r0]
 have c1:w'.cell? ⟨w.heap.size,1,none⟩=some (.int .i64 0):=by simp[World.cell?,r0]
 have c2:w'.cell? ⟨w.heap.size,2,none⟩=some (.slice none 0 0):=by simp[World.cell?,r0]
 have c3:w'.cell? ⟨w.heap.size,3,none⟩=some (.slice none 0 0):=by simp[World.cell?,r0]
 have d0:w'.cell? ⟨w.heap.size + 1,0,none⟩=some (.int .i64 0):=by simp[World.cell?,r1]
 have f0:w'.frozen? ⟨w.heap.size,0,none⟩=false:=by simp[World.frozen?,r0]
 have f1:w'.frozen? ⟨w.heap.size,1,none⟩=false:=by simp[World.frozen?,r0]
 have f2:w'.frozen? ⟨w.heap.size,2,none⟩=false:=by simp[World.frozen?,r0]
 have f3:w'.frozen? ⟨w.heap.size,3,none⟩=false:=by simp[World.frozen?,r0]
 have g0:w'.frozen? ⟨w.heap.size + 1,0,none⟩=false:=by simp[World.frozen?,r1]
 clear k0 k1 r0 r1 hc hmf
 rcases h with ⟨u0,u1,u2,u3,o0,o1,o2,o3,rfl,hR⟩ | ⟨n,rfl,hR⟩
 ·simp only
  rename_i K1 hK1 K hK
  apply hK
  clear hK
  have hK1':=hK1
  clear hK1
  have s0:∀ a m (w:World),(store a u0 m).run Tryz.prog w=stored Tryz.prog w a u0 m:=fun a m w=>run_store _ w a u0 m o0
  have s1:∀ a m (w:World),(store a u1 m).run Tryz.prog w=stored Tryz.prog w a u1 m:=fun a m w=>run_store _ w a u1 m o1
  have s2:∀ a m (w:World),(store a u2 m).run Tryz.prog w=stored Tryz.prog w a u2 m:=fun a m w=>run_store _ w a u2 m o2
  have s3:∀ a m (w:World),(store a u3 m).run Tryz.prog w=stored Tryz.prog w a u3 m:=fun a m w=>run_store _ w a u3 m o3
  go_wp2
  change Leaves _ _ _ _ _ _ _
  refine leaves_cons (f:=244) (args:=#[.pointer (some ⟨w.heap.size,0,none⟩),.pointer (some ⟨w.heap.size + 1,0,none⟩)]) (by simp) (by simp[go_sem]) ?_
  refine (yG ⟨w.heap.size,0,none⟩ ⟨w.heap.size + 1,0,none⟩ _).mono ?_
  rintro e u' w'' ⟨rfl,rfl,rfl⟩
  simp only[Leaves,settle]
  refine⟨_,?_,hR⟩
  simp[results,Tryz.results167,go_sem,zQ,World.cell?_setCell_same,c0,c1,c2,c3,d0]
 ·change Leaves _ _ _ _ _ _ _
  refine leaves_cons (f:=244) (args:=#[.pointer (some ⟨w.heap.size,0,none⟩),.pointer (some ⟨w.heap.size + 1,0,none⟩)]) (by simp) (by simp[go_sem]) ?_
  refine (Bt w.heap.size (w.heap.size + 1) _ _ _ _ _ n w' c0 c1 c2 c3 d0 f0 f1 f2 f3 g0 (by omega) (by omega)).mono ?_
  rintro e u' w'' ⟨rfl,rfl,rfl⟩
  simp only[Leaves,settle]
  refine⟨_,?_,hR⟩
  simp[results,Tryz.results167,go_sem,zQ,World.cell?_setCell_same,c0,c1,c2,c3,d0]
theorem oF(w:World):(oE w).heap.size=w.heap.size + 2:=by simp[oE]
theorem FF(w:World)(b:Nat)(hb:b < w.heap.size):(oE w).heap[b]? = w.heap[b]?:=by
 unfold oE
 rw[Go.Av.alloc_old _ _ (by simp;omega),Go.Av.alloc_old _ _ hb]
theorem yb(w:World):Gro w (oE w):=(Gro.alloc w _ _).trans (Gro.alloc _ _ _)
theorem xZ(w w':World)(u0 u1 u2 u3 e:Value):Gro w' (zQ w w' u0 u1 u2 u3 e):=
 ((((Gro.setCell _ _ _).trans (Gro.setCell _ _ _)).trans (Gro.setCell _ _ _)).trans (Gro.setCell _ _ _)).trans (Gro.setCell _ _ _)
theorem tT(w w':World)(u0 u1 u2 u3 e:Value)(b:Nat)(hb:¬ (w.heap.size≤b∧b < (oE w).heap.size)):(zQ w w' u0 u1 u2 u3 e).heap[b]? = w'.heap[b]?:=by
 rw[oF] at hb
 unfold zQ
 rw[fL (by simp;omega),fL (by simp;omega),fL (by simp;omega),fL (by simp;omega),fL (by simp;omega)]
theorem Br{call:FuncId→List AV→M AV}{f:AV}{xs:List AV}{h:Hp}(hr:bH call f xs h≠.fail):∃ g a c,f= .fn (.func g) a c:=by
 unfold bH at hr
 split at hr
 ·exact⟨_,_,_,rfl⟩
 ·exact absurd rfl hr
theorem Le:L1:=by
 intro call hC args h S β w vs hr hg hw hh hv
 have key:∀ f,args=[f]→Calls Tryz.prog 167 vs.toArray w (dl none S β h w (zP 33 .i64 (.agg [.int .i64 0,.int .i64 0,.sl [],.sl []]) call args h)):=by
  rintro f rfl
  have ht:zP 33 .i64 (.agg [.int .i64 0,.int .i64 0,.sl [],.sl []]) call [f] h=FE 33 .i64 (.agg [.int .i64 0,.int .i64 0,.sl [],.sl []]) (bH call f [] h):=rfl
  rw[ht] at hr ⊢
  clear ht
  simp only[aM] at hv
  obtain⟨fv,_,rfl,hv,rfl⟩:=hv
  have hne:bH call f [] h≠.fail:=fun e=>by rw[e] at hr;exact hr rfl
  obtain⟨g,a,c,rfl⟩:=Br hne
  ·have hcv:bH call (.fn (.func g) a c) [] h=call g (a++[]++c) h:=rfl
   rw[hcv] at hr hne ⊢
   simp only[VR] at hv
   obtain⟨x,y,rfl,hx,hy⟩:=hv
   have hold:=FF w
   have hv2:aM S β (a++[]++c) (x++y):=by simpa using hx.append hy
   obtain⟨hcall,hfn⟩:=hC g (a++[]++c) h S β (oE w) (x++y) hne ⟨hg.1.mono fun b hb=>hold b (Nat.lt_of_lt_of_le hb hg.1.lt),hg.2⟩ (hw.grow hold) (hh.grow hold) hv2
   refine FG g x.toArray y.toArray w _ hfn ?_
   have e:(x++y).toArray=x.toArray++y.toArray:=by simp
   rw[← e]
   refine hcall.mono fun en w' hp=>?_
   have kk:∀ S' β' h',Go.Av.Left (bX β h) S β (oE w) S' β' w' h'→w'.heap[w.heap.size]? = (oE w).heap[w.heap.size]? ∧w'.heap[w.heap.size + 1]? = (oE w).heap[w.heap.size + 1]?:=fun S' β' h' L=>
    ⟨(L.keep _ (by rw[oF];omega) fun ho=>by have:=hh.low ho;omega).1,(L.keep _ (by rw[oF];omega) fun ho=>by have:=hh.low ho;omega).1⟩
   generalize call g (a++[]++c) h=r at hr hne hp ⊢
   cases r with
   | fail=>exact absurd rfl hne
   | ok v h'=>
    obtain⟨S',β',u,rfl,hu,L,_⟩:=hp
    refine⟨(kk _ _ _ L).1,(kk _ _ _ L).2,.inl ?_⟩
    simp only[FE] at hr ⊢
    cases hok:ct 4 v with
    | false=>rw[hok] at hr;exact absurd rfl hr
    | true=>
     obtain⟨g1,g2,g3⟩:=iZ hok hu
     have hcs:∃ cs,v= .agg cs:=by
      simp only[ct,Bool.and_eq_true] at hok
      have h1:=hok.1
      cases v <;> simp[cH] at h1
      exact⟨_,rfl⟩
     obtain⟨cs,rfl⟩:=hcs
     simp only[VR] at hu
     obtain⟨us,rfl,hus⟩:=hu
     simp only[Value.cells] at g1 g3
     match us,g1 with
     | [u0,u1,u2,u3],_=>
      refine⟨u0,u1,u2,u3,g3 u0 (by simp),g3 u1 (by simp),g3 u2 (by simp),g3 u3 (by simp),rfl,S',β',_,rfl,?_,tx (yb w) hold L (xZ ..) (fun b hb=>tT w w' _ _ _ _ _ b hb) hw hh,fun sz hsz=>by cases hsz⟩
      simp only[VR,aM]
      exact⟨[.agg #[u0,u1,u2,u3],.int .i64 0],rfl,_,_,rfl,⟨[u0,u1,u2,u3],rfl,hus⟩,_,_,rfl,rfl,rfl⟩
   | pan v h'=>
    obtain⟨S',β',u,rfl,hu,L⟩:=hp
    refine⟨(kk _ _ _ L).1,(kk _ _ _ L).2,.inr ?_⟩
    unfold FE at hr ⊢
    split at hr
    ·rename_i heq;cases heq
    ·rename_i t' k' n h'' heq
     cases heq
     cases hb:(Nat.beq t' 33&&decide (k'=IntKind.i64)) with
     | false=>rw[hb] at hr;exact absurd rfl hr
     | true=>
      simp only[Bool.and_eq_true,decide_eq_true_eq] at hb
      obtain⟨hb1,rfl⟩:=hb
      have:=Nat.eq_of_beq_eq_true hb1
      subst this
      simp only[VR] at hu
      obtain⟨u',rfl,rfl⟩:=hu
      refine⟨n,rfl,S',β',_,rfl,?_,tx (yb w) hold L (xZ ..) (fun b hb=>tT w w' _ _ _ _ _ b hb) hw hh,fun sz hsz=>by cases hsz⟩
      simp only[VR,aM]
      refine⟨[.agg #[.int .i64 0,.int .i64 0,.slice none 0 0,.slice none 0 0],.int .i64 n],rfl,_,_,rfl,⟨[.int .i64 0,.int .i64 0,.slice none 0 0,.slice none 0 0],rfl,_,_,rfl,rfl,_,_,rfl,rfl,_,_,rfl,?_,_,_,rfl,?_,rfl⟩,_,_,rfl,rfl,rfl⟩
      ·exact⟨none,0,rfl,Nat.le_refl _,fun _=>rfl,fun q hq=>by cases hq⟩
      ·exact⟨none,0,rfl,Nat.le_refl _,fun _=>rfl,fun q hq=>by cases hq⟩
    ·exact absurd rfl hr
 rcases args with _ | ⟨f,_ | ⟨f2,r⟩⟩
 ·exact absurd rfl hr
 ·exact key _ rfl
 ·exact absurd rfl hr
end Go.Proofs.YtkkabinknmldeaaGreat
namespace Go.Proofs.YtkkabinknmldeaaGreat
open Go Go.Av Go.RowKit
set_option maxRecDepth 100000
theorem A5{S:au}{β:List bn}{s:List UInt8}{r:List Value}{l:List AV}(hv:aM S β (.str s:: l) r):∃ x r',r= .string x:: r'∧x.data.toList=s∧aM S β l r':=by
 simp only[aM,VR] at hv
 obtain⟨v,r',rfl,⟨x,rfl,hx⟩,h⟩:=hv
 exact⟨x,r',rfl,hx,h⟩
theorem KV(call:FuncId→List AV→M AV)(args:List AV)(h:Hp)(S:au)(β:List bn)(w:World)(vs:List Value)(hr:jj call args h≠.fail)(hg:sa β h w)(hw:Wf S w)(hh:ca S β w h)(hv:aM S β args vs):
  Calls Tryz.prog 154 vs.toArray w (dl none S β h w (jj call args h)):=by
 unfold jj at hr ⊢
 split at hr
 ·rename_i s t
  obtain⟨x,r,rfl,hx,hv⟩:=A5 hv
  obtain⟨y,r,rfl,hy,hv⟩:=A5 hv
  simp only[aM] at hv
  subst hv
  cases hc:decide (s.length < 4294967281) with
  | false=>rw[hc] at hr;exact absurd rfl hr
  | true=>
   simp only[cond_true]
   have hlen:x.size=s.length:=by rw[← hx,Array.length_toList];rfl
   obtain⟨m,hm⟩:=hg.1.max
   refine (Any.strings_Contains Tryz.lays144 x y m w (by have:=of_decide_eq_true hc;omega) hm).mono ?_
   rintro e w' ⟨rfl,rfl⟩
   exact eI hw hh (Below.refl _ _) uL (by simp only[VR];rw[hx,hy])
 ·exact absurd rfl hr
end Go.Proofs.YtkkabinknmldeaaGreat
namespace Go.Proofs.YtkkabinknmldeaaGreat
open Go Go.Av Go.RowKit Go.Shelf
attribute [local go_sem] Oper.semAt_some
abbrev dq:=ByteArray×Int×(Option Addr×Nat×Nat)
def dq.k(x:dq):Value:=.int .i64 x.2.1
def dq.f(x:dq):Value:=.slice x.2.2.1 x.2.2.2.1 x.2.2.2.2
def Cq(x:dq):Value:=.agg #[.string x.1,x.k,x.f]
def back(zs:List dq)(k:Nat):List (Nat×dq):=(List.range k).map fun j=>(zs.length - 1 - j,zs[zs.length - 1 - j]?.getD default)
theorem sP(zs:List dq)(k:Nat):back zs (k + 1)=back zs k++[(zs.length - 1 - k,zs[zs.length - 1 - k]?.getD default)]:=by simp[back,List.range_succ]
theorem vL(zs:List dq)(k:Nat):(back zs k).length=k:=by simp[back]
def pP(W:World)(b off:Nat)(zs:List dq):Prop:=∀ j,j < zs.length→W.cell? ⟨b,off + j * 3,none⟩=some (.string (zs[j]?.getD default).1)∧W.cell? ⟨b,off + j * 3 + 1,none⟩=some (zs[j]?.getD default).k∧W.cell? ⟨b,off + j * 3 + 2,none⟩=some (zs[j]?.getD default).f
theorem pP.below{n₀:Nat}{A B:World}(h:Below n₀ A B){b off:Nat}(hb:b < n₀){zs:List dq}(c:pP A b off zs):pP B b off zs:=fun j hj=>by
 obtain⟨h1,h2,h3⟩:=c j hj
 exact⟨(h.cell (p:=⟨b,_,none⟩) hb).trans h1,(h.cell (p:=⟨b,_,none⟩) hb).trans h2,(h.cell (p:=⟨b,_,none⟩) hb).trans h3⟩
set_option maxRecDepth 100000 in
set_option maxHeartbeats 2000000 in
theorem KA(F:Fence)(n:Nat)(h7:F.fn 288)(hro:F.round=none)(hn:1≤n)(l Bs n₀ b off cap:Nat)(zs:List dq)(hreach:zs.length≤1000000000)(hb:b < n₀)(hBn:Bs < n₀) (J Jx:List (Nat×dq)→World→Prop)
  (hY:∀ pre x W,J pre W→pre.length < zs.length→YieldAt F (n - 1) Tryz.prog l #[.int .i64 (x.1:Int),Cq x.2] W fun e W'=>
   (e= .returned (.bool true)∧J (pre++[x]) W'∧Below n₀ W W')∨(e= .returned (.bool false)∧Jx (pre++[x]) W'))
  (W:World) (hBs:W.cell? ⟨Bs,0,none⟩=some (.slice (some ⟨b,off,none⟩) zs.length cap)) (hc:pP W b off zs) (h0:J [] W):
  CallsIn F n Tryz.prog 288 #[.func (.yield l) #[] #[],.pointer (some ⟨Bs,0,none⟩)] W fun e W'=>(∃ v,e= .returned v)∧
   ((∃ ys,ys=back zs zs.length∧J ys W')∨(∃ pre,(∃ k,k≤zs.length∧pre=back zs k)∧Jx pre W')):=by
 refine callsIn_of_wp Tryz.func288 rfl h7 ?_ hro
 simp only[Tryz.ntmps288,List.size_toArray,List.length_cons,List.length_nil,Nat.reduceAdd,Nat.reduceSub,Array.replicate_succ,Array.replicate_zero,List.push_toArray,List.append_toArray,List.nil_append,List.cons_append]
 gi_wp2
 gi_loopw [3] (fun i wr=>∃ k:Nat,k≤zs.length∧i= .int .i64 ((zs.length:Int) - 1 - k)∧J (back zs k) wr∧Below n₀ W wr)
  (fun i _=>(intOf i + 1).toNat)
 case atStart=>exact⟨0,Nat.zero_le _,by simp,h0,Below.refl _ _⟩
 case round=>
  obtain⟨k,hk,rfl,hJs,hnx⟩:=hrel
  have hbs:wr.cell? ⟨Bs,0,none⟩=some (.slice (some ⟨b,off,none⟩) zs.length cap):=(hnx.cell (p:=⟨Bs,0,none⟩) hBn).trans hBs
  by_cases hlt:k < zs.length
  ·obtain⟨fn,tmps,assign,body,hy,hR⟩:=hY _ (zs.length - 1 - k,zs[zs.length - 1 - k]?.getD default) wr hJs (by rw[vL];exact hlt)
   dsimp only at hy
   obtain⟨m,hm⟩:∃ m:Nat,(zs.length:Int) - 1 - k=m:=⟨zs.length - 1 - k,by omega⟩
   have hm':zs.length - 1 - k=m:=by omega
   rw[hm'] at hy hR
   rw[hm]
   obtain⟨c1,c2,c3⟩:=(hc.below hnx hb) m (by omega)
   generalize hz:zs[m]?.getD default=z at hy hR c1 c2 c3
   obtain⟨z1,z2,z3,z4,z5⟩:=z
   have hml:m < zs.length:=by omega
   simp only[Cq,dq.k,dq.f] at hy c2 c3
   gi_wp2
   refine hR.mono ?_
   rintro e W3 (⟨rfl,hJ3,hk3⟩ | ⟨rfl,hJx3⟩)
   ·gi_wp2
    go_roundw
    case rel=>exact⟨k + 1,by omega,by congr 1;omega,by rw[sP,hm',hz];exact hJ3,hnx.trans hk3⟩
    case measure=>simp[intOf] <;> omega
   ·gi_wp2
    refine bodyPost_ret (results_none rfl _ _ _) rfl ?_
    exact⟨⟨_,rfl⟩,.inr ⟨_,⟨k + 1,by omega,by rw[sP,hm',hz]⟩,hJx3⟩⟩
  ·obtain rfl:k=zs.length:=by omega
   gi_wp2
   go_end0
   exact⟨⟨_,rfl⟩,.inl ⟨_,rfl,hJs⟩⟩
set_option maxRecDepth 100000 in
set_option maxHeartbeats 1000000 in
theorem zk(F:Fence)(n:Nat)(h7:F.fn 288)(hro:F.round=none)(l Bs:Nat)(p:Option Addr)(cap:Nat)(J:List (Nat×dq)→World→Prop)(W:World)(hBs:W.cell? ⟨Bs,0,none⟩=some (.slice p 0 cap))(h0:J [] W):
  CallsIn F n Tryz.prog 288 #[.func (.yield l) #[] #[],.pointer (some ⟨Bs,0,none⟩)] W fun e W'=>(∃ v,e= .returned v)∧J [] W':=by
 refine callsIn_of_wp Tryz.func288 rfl h7 ?_ hro
 simp only[Tryz.ntmps288,List.size_toArray,List.length_cons,List.length_nil,Nat.reduceAdd,Nat.reduceSub,Array.replicate_succ,Array.replicate_zero,List.push_toArray,List.append_toArray,List.nil_append,List.cons_append]
 gi_wp2
 gi_loopw [3] (fun i wr=>i= .int .i64 (-1)∧J [] wr) (fun _ _=>0)
 case atStart=>exact⟨rfl,h0⟩
 case round=>
  obtain⟨rfl,hJs⟩:=hrel
  gi_wp2
  go_end0
  exact⟨⟨_,rfl⟩,hJs⟩
set_option maxHeartbeats 1000000 in
theorem Ni(F:Fence)(n:Nat)(h5:F.fn 223)(hro:F.round=none)(a:Option Addr)(len cap:Nat)(w:World):
  CallsIn F n Tryz.prog 223 #[.slice a len cap] w fun e w'=>e= .returned (.func (.func 288) #[] #[.pointer (some ⟨w.heap.size,0,none⟩)])∧w'=w.alloc (.cells #[.slice a len cap] 23):=by
 refine callsIn_of_wp Tryz.func223 rfl h5 ?_ hro
 simp only[Tryz.ntmps223,List.size_toArray,List.length_cons,List.length_nil,Nat.reduceAdd,Nat.reduceSub,Array.replicate_succ,Array.replicate_zero,List.push_toArray,List.append_toArray,List.nil_append,List.cons_append]
 gi_wp2
 go_ret
 exact⟨rfl,rfl⟩
def mA(n₀:Nat)(W:World)(sv:Value)(zs:List dq):Prop:=
 (zs=[]∧∃ p cap,sv= .slice p 0 cap)∨∃ b off cap,sv= .slice (some ⟨b,off,none⟩) zs.length cap∧b < n₀∧pP W b off zs
theorem mA.below{n₀:Nat}{A B:World}(h:Below n₀ A B){sv:Value}{zs:List dq}:mA n₀ A sv zs→mA n₀ B sv zs
 | .inl e=>.inl e
 | .inr ⟨b,off,cap,e,hb,hc⟩=>.inr ⟨b,off,cap,e,hb,hc.below h hb⟩
theorem mA.mono{n n':Nat}(h:n≤n'){W:World}{sv:Value}{zs:List dq}:mA n W sv zs→mA n' W sv zs
 | .inl e=>.inl e
 | .inr ⟨b,off,cap,e,hb,hc⟩=>.inr ⟨b,off,cap,e,Nat.lt_of_lt_of_le hb h,hc⟩
theorem EK(F:Fence)(n:Nat)(h8:F.fn 288)(hro:F.round=none)(hn:1≤n)(Bs:Nat)(sv:Value)(zs:List dq)(hreach:zs.length≤1000000000)(w:World) (hBs:Bs < w.heap.size)
  (hc:w.cell? ⟨Bs,0,none⟩=some sv) (hI:mA w.heap.size w sv zs):
  SeqStopsK F n Tryz.prog 288 #[.pointer (some ⟨Bs,0,none⟩)] (fun x:Nat×dq=>#[Value.int .i64 (x.1:Int),Cq x.2]) (Below w.heap.size) (fun ys=>ys=back zs zs.length)
   (fun pre=>∃ k,k≤zs.length∧pre=back zs k) zs.length w:=fun l J Jx W hW _ _ hY h0=>by
 have hc':=(hW.cell (p:=⟨Bs,0,none⟩) hBs).trans hc
 rcases hI.below hW with ⟨rfl,p,cap,rfl⟩ | ⟨b,off,cap,rfl,hb,hcs⟩
 ·exact (zk F n h8 hro l Bs p cap J W hc' h0).mono fun e W' ⟨he,hj⟩=>⟨he,.inl ⟨_,rfl,hj⟩⟩
 ·exact KA F n h8 hro hn l Bs w.heap.size b off cap zs hreach hb hBs J Jx hY W hc' hcs h0
def nY(zs:List dq)(x:ByteArray):Option dq:=zs.reverse.find? fun z=>decide (z.1=x)
def re(zs:List dq)(x:ByteArray)(z0 z1:Value):Value:=match nY zs x with
 | some z=>.tuple #[.agg #[z.k,z.f],.bool true]
 | none=>.tuple #[.agg #[z0,z1],.bool false]
theorem vM(zs:List dq){k:Nat}(hk:k≤zs.length):(back zs k).map (·.2)=zs.reverse.take k:=by
 apply List.ext_getElem
 ·simp[back,hk]
 ·intro i h1 h2
  have hi:i < k:=by simpa [back] using h1
  have h3:zs.length - 1 - i < zs.length:=by omega
  simp[back,h3]
theorem wU{zs:List dq}{x:ByteArray}(h:∀ p∈back zs zs.length,p.2.1≠x):nY zs x=none:=by
 unfold nY
 rw[List.find?_eq_none]
 intro z hz
 have hm:=vM zs (Nat.le_refl _)
 rw[List.take_of_length_le (by simp)] at hm
 rw[← hm] at hz
 obtain⟨p,hp,rfl⟩:=List.mem_map.1 hz
 simpa using h p hp
theorem wV{zs:List dq}{x:ByteArray}{k:Nat}(hk:k≤zs.length){ini:List (Nat×dq)}{last:Nat×dq}(e1:back zs k=ini++[last])(e2:∀ p∈ini,p.2.1≠x)(e3:last.2.1=x):nY zs x=some last.2:=by
 have hm:=vM zs hk
 rw[e1,List.map_append] at hm
 unfold nY
 rw[← List.take_append_drop k zs.reverse,← hm,List.append_assoc,List.find?_append]
 have h1:(ini.map (·.2)).find? (fun z=>decide (z.1=x))=none:=by
  rw[List.find?_eq_none]
  intro z hz
  obtain⟨p,hp,rfl⟩:=List.mem_map.1 hz
  simpa using e2 p hp
 rw[h1]
 simp[e3]
def cK(W:World)(B:Nat)(t:TypeId)(cs:Array Value):Prop:=W.heap[B]? = some (.cells cs t (0,0))
theorem cK.lt{W:World}{B:Nat}{t:TypeId}{cs:Array Value}(h:cK W B t cs):B < W.heap.size:=(Array.getElem?_eq_some_iff.1 h).1
theorem cK.cell{W:World}{B:Nat}{t:TypeId}{cs:Array Value}(h:cK W B t cs)(o:Nat):W.cell? ⟨B,o,none⟩=cs[o]?:=by simp[World.cell?,show W.heap[B]? = _ from h]
theorem cK.frozen{W:World}{B:Nat}{t:TypeId}{cs:Array Value}(h:cK W B t cs)(o:Nat):W.frozen? ⟨B,o,none⟩=false:=by simp[World.frozen?,show W.heap[B]? = _ from h]
theorem cK.new(W:World)(t:TypeId)(cs:Array Value):cK (W.alloc (.cells cs t)) W.heap.size t cs:=World.alloc_heap_new W _
theorem cK.kept{W W':World}{row:Option Nat}{B:Nat}{t:TypeId}{cs:Array Value}(h:cK W B t cs)(hg:W.grownBy W' row)(hne:some B≠row):cK W' B t cs:=(hg.block B h.lt hne).trans h
theorem cK.alloc{W:World}{B:Nat}{t:TypeId}{cs:Array Value}(h:cK W B t cs)(o:Obj):cK (W.alloc o) B t cs:=h.kept (World.grownBy_alloc W o none) (by simp)
theorem cK.put{W:World}{B:Nat}{t:TypeId}{cs:Array Value}(h:cK W B t cs){l:Nat}{o:Obj}(o':Obj)(hl:W.heap[l]? = some o)(ho:o.isCells=false):cK (W.putObj l o') B t cs:=
 h.kept (grownBy_putObj' W l o') (fun e=>by cases e;rw[show W.heap[B]? = _ from h] at hl;cases hl;cases ho)
theorem su(W:World)(b o:Nat)(v:Value):W.grownBy (W.setCell ⟨b,o,none⟩ v) (some b):=
 ⟨rfl,rfl,rfl,(KeepsWalks.setCell W _ v).size,fun k _ hk=>Below.heap_setCell _ _ _ k (fun e=>hk (by rw[e]))⟩
theorem cK.other{W:World}{B B' o:Nat}{t:TypeId}{cs:Array Value}(h:cK W B t cs)(hne:B≠B')(u:Value):cK (W.setCell ⟨B',o,none⟩ u) B t cs:=h.kept (su W B' o u) (fun e=>hne (by cases e;rfl))
theorem cK.set{W:World}{B:Nat}{t:TypeId}{cs:Array Value}(h:cK W B t cs)(o:Nat)(v:Value):cK (W.setCell ⟨B,o,none⟩ v) B t (cs.setIfInBounds o v):=by
 obtain⟨hlt,hk⟩:=Array.getElem?_eq_some_iff.1 h
 show (W.heap.modify B _)[B]? = _
 rw[Array.getElem?_eq_getElem (by rw[Array.size_modify];exact hlt),Array.getElem_modify_self,hk]
 rfl
theorem DL{x y:ByteArray}(h:(x.toList== y.toList)=true):x=y:=by
 have:=beq_iff_eq.1 h
 rw[ByteArray.toList_eq,ByteArray.toList_eq] at this
 exact ByteArray.ext (Array.ext' this)
theorem DN{x y:ByteArray}(h:(x.toList== y.toList)=false):x≠y:=by
 rintro rfl
 simp at h
theorem f9{β:Type}(B:Nat)(t:TypeId)(f:β→Array Value):Own (fun s W=>cK W B t (f s)):=fun s X Y row hs hg hrow=>
 hs.kept hg (fun e'=>by obtain⟨o,ho,hc⟩:=hrow B e'.symm;rw[show X.heap[B]? = _ from hs] at ho;cases ho;cases hc)
set_option maxRecDepth 100000 in
set_option maxHeartbeats 4000000 in
theorem GX(F:Fence)(n:Nat)(h3:F.fn 145)(h5:F.fn 223)(h7:F.fn 288)(hro:F.round=none)(hn:3≤n)(a:Option Addr)(len cap:Nat)(x:ByteArray)(zs:List dq)(hreach:zs.length≤1000000000)(w:World)(hI:mA w.heap.size w (.slice a len cap) zs):
  CallsIn F n Tryz.prog 145 #[.slice a len cap,.string x] w fun e W'=>e= .returned (re zs x (.int .i64 0) (.slice none 0 0))∧Below w.heap.size w W':=by
 have h1:1≤n:=by omega
 refine callsIn_of_wp_marks Tryz.func145 rfl h3 ?_ hro
 simp only[Tryz.ntmps145,List.size_toArray,List.length_cons,List.length_nil,Nat.reduceAdd,Nat.reduceSub,Array.replicate_succ,Array.replicate_zero,List.push_toArray,List.append_toArray,List.nil_append,List.cons_append]
 gi_wp2_with (gi_at_call 223;refine (Ni F (n - 1) h5 hro _ _ _ _).mono ?_;rintro e w' ⟨rfl,rfl⟩)
 have b0:=(((cK.new w 9 #[.string x]).alloc (.cells #[.int .i64 0,.slice none 0 0] 72)).alloc (.cells #[.bool false] 4)).alloc (.cells #[.slice a len cap] 23)
 have b1:=((cK.new (w.alloc (.cells #[.string x] 9)) 72 #[.int .i64 0,.slice none 0 0]).alloc (.cells #[.bool false] 4)).alloc (.cells #[.slice a len cap] 23)
 have b2:=(cK.new ((w.alloc (.cells #[.string x] 9)).alloc (.cells #[.int .i64 0,.slice none 0 0] 72)) 4 #[.bool false]).alloc (.cells #[.slice a len cap] 23)
 have b3:=cK.new (((w.alloc (.cells #[.string x] 9)).alloc (.cells #[.int .i64 0,.slice none 0 0] 72)).alloc (.cells #[.bool false] 4)) 23 #[.slice a len cap]
 simp only[World.size_alloc] at b1 b2 b3
 have hB0:Below w.heap.size w ((((w.alloc (.cells #[.string x] 9)).alloc (.cells #[.int .i64 0,.slice none 0 0] 72)).alloc (.cells #[.bool false] 4)).alloc (.cells #[.slice a len cap] 23)):=
  ((((Below.refl _ w).alloc (Nat.le_refl _) _).alloc (by simp) _).alloc (by simp;omega) _).alloc (by simp;omega) _
 have hsz:((((w.alloc (.cells #[.string x] 9)).alloc (.cells #[.int .i64 0,.slice none 0 0] 72)).alloc (.cells #[.bool false] 4)).alloc (.cells #[.slice a len cap] 23)).heap.size=w.heap.size + 4:=by simp
 obtain⟨W0,hW0⟩:∃ W0,((((w.alloc (.cells #[.string x] 9)).alloc (.cells #[.int .i64 0,.slice none 0 0] 72)).alloc (.cells #[.bool false] 4)).alloc (.cells #[.slice a len cap] 23))=W0:=⟨_,rfl⟩
 rw[hW0] at b0 b1 b2 b3 hB0 hsz ⊢
 clear hW0
 refine wpIn_rangeFunc_ownH hro h1 (gf:=288) (lb:=#[.pointer (some ⟨w.heap.size + 1 + 1 + 1,0,none⟩)]) rfl h7 (enters_of Tryz.func288 (by kernel_rfl) rfl)
  (EK F (n - 1) h7 hro (by omega) (w.heap.size + 1 + 1 + 1) _ zs hreach W0 (by omega) (b3.cell 0) ((hI.below hB0).mono (by omega))) belowK_t (belowK_b (Nat.le_refl _)) (Below.refl _ _) (fun _=>rfl)
  (fun pre W=>(∀ p∈pre,p.2.1≠x)∧(cK W w.heap.size 9 #[.string x]∧cK W (w.heap.size + 1) 72 #[.int .i64 0,.slice none 0 0]∧cK W (w.heap.size + 1 + 1) 4 #[.bool false]∧cK W (w.heap.size + 1 + 1 + 1) 23 #[.slice a len cap])∧Below w.heap.size w W)
  (fun c pre W=>(c= .ret∧∃ ini last,pre=ini++[last]∧(∀ p∈ini,p.2.1≠x)∧last.2.1=x∧cK W (w.heap.size + 1) 72 #[last.2.k,last.2.f]∧cK W (w.heap.size + 1 + 1) 4 #[.bool true])∧Below w.heap.size w W)
  ?hI ?hIx ⟨fun _ h=>(by cases h),⟨b0,b1,b2,b3⟩,hB0⟩
  (fun y a' W=>∃ Bx,cK W Bx 87 #[.string y.2.1,y.2.k,y.2.f]∧a'= { tmps:=#[.slice a len cap,.string x,undef,.pointer (some ⟨w.heap.size,0,none⟩),.pointer (some ⟨w.heap.size + 1,0,none⟩),.pointer (some ⟨w.heap.size + 1 + 1,0,none⟩),undef,.pointer (some ⟨Bx,0,none⟩),.slice a len cap,.func (.func 288) #[] #[.pointer (some ⟨w.heap.size + 1 + 1 + 1,0,none⟩)],.int .i64 (y.1:Int),Cq y.2,undef,undef,undef,undef,undef,undef,undef],defers:=[] })
  (fun y a' _ X Y row hs hg hr=>by obtain⟨Bx,h2,h3⟩:=hs;exact⟨Bx,f9 Bx 87 (fun (_:Unit)=>#[Value.string y.2.1,y.2.k,y.2.f]) () X Y row h2 hg (fun r e=>(hr r e).2),h3⟩)
  ?assign ?body ?done ?stop
 case hI=>exact OwnFrom.and (ownFrom_pure _ _) (OwnFrom.and (OwnFrom.and (Own.from (f9 _ _ _) _) (OwnFrom.and (Own.from (f9 _ _ _) _) (OwnFrom.and (Own.from (f9 _ _ _) _) (Own.from (f9 _ _ _) _)))) (ownFrom_below (Nat.le_refl _) (by omega)))
 case hIx=>
  intro c
  refine OwnFrom.and (Own.from (fun s A B row hs hg hr=>?_) _) (ownFrom_below (Nat.le_refl _) (by omega))
  obtain⟨hc,ini,last,e1,e2,e3,e4,e5⟩:=hs
  exact⟨hc,ini,last,e1,e2,e3,f9 _ _ (fun (_:Unit)=>#[last.2.k,last.2.f]) () A B row e4 hg hr,f9 _ _ (fun (_:Unit)=>#[Value.bool true]) () A B row e5 hg hr⟩
 case assign=>
  rintro l pre y W K ⟨hp,⟨r0,r1,r2,r3⟩,hB⟩ hK
  obtain⟨yi,y1,y2,y3,y4,y5⟩:=y
  simp only[Cq,dq.k,dq.f] at hK ⊢
  gi_wp2
  exact hK _ _ ((KeepsOthers.alloc _ _).from _) ((Below.refl _ W).alloc (by have:=r3.lt;omega) _) ⟨hp,⟨r0.alloc _,r1.alloc _,r2.alloc _,r3.alloc _⟩,hB.alloc hB.size _⟩ ⟨W.heap.size,cK.new W _ _,rfl⟩
 case body=>
  rintro l pre y a' W hl ⟨r,hr⟩ ⟨hp,⟨r0,r1,r2,r3⟩,hB⟩ ⟨Bx,rx,rfl⟩ hlt
  obtain⟨yi,y1,y2,y3,y4,y5⟩:=y
  simp only[Cq,dq.k,dq.f] at rx ⊢
  have c0:=r0.cell 0
  have sb:=rx.cell 0
  have cx1:=rx.cell 1
  have cx2:=rx.cell 2
  have f10:=r1.frozen 0
  have f11:=r1.frozen 1
  have f20:=r2.frozen 0
  have c10:=r1.cell 0
  have c11:=r1.cell 1
  have c20:=r2.cell 0
  simp at c0 sb cx1 cx2 c10 c11 c20
  gi_wp2
  ·have hx:y1=x:=DL (by assumption)
   have r1':=((r1.set 0 (.int .i64 y2)).set 1 (.slice y3 y4 y5)).other (B':=w.heap.size + 1 + 1) (o:=0) (by omega) (.bool true)
   have r2':=((r2.other (B':=w.heap.size + 1) (o:=0) (by omega) (.int .i64 y2)).other (B':=w.heap.size + 1) (o:=1) (by omega) (.slice y3 y4 y5)).set 0 (.bool true)
   exact⟨(((KeepsOthers.setCell _ _ _).trans (KeepsOthers.setCell _ _ _)).trans (KeepsOthers.setCell _ _ _)).from _,⟨rfl,pre,(yi,y1,y2,y3,y4,y5),rfl,hp,hx,r1',r2'⟩,
    ((hB.setCell (p:=⟨w.heap.size + 1,0,none⟩) (by simp) _).setCell (p:=⟨w.heap.size + 1,1,none⟩) (by simp) _).setCell (p:=⟨w.heap.size + 1 + 1,0,none⟩) (by simp;omega) _⟩
  ·have hx:y1≠x:=DN (by assumption)
   exact⟨KeepsFrom.refl _ _,Below.refl _ _,fun p hp'=>(List.mem_append.1 hp').elim (hp p) (fun e=>by simp at e;subst e;exact hx),⟨r0,r1,r2,r3⟩,hB⟩
 case done=>
  rintro D ys W hD rfl ⟨hne,⟨r0,r1,r2,r3⟩,hB⟩ hK
  have f10:=r1.frozen 0
  have f11:=r1.frozen 1
  have f20:=r2.frozen 0
  have c10:=r1.cell 0
  have c11:=r1.cell 1
  have c20:=r2.cell 0
  simp at c10 c11 c20
  gi_wp2
  have r1':=((r1.set 0 (.int .i64 0)).set 1 (.slice none 0 0)).other (B':=w.heap.size + 1 + 1) (o:=0) (by omega) (.bool false)
  have r2':=((r2.other (B':=w.heap.size + 1) (o:=0) (by omega) (.int .i64 0)).other (B':=w.heap.size + 1) (o:=1) (by omega) (.slice none 0 0)).set 0 (.bool false)
  have hB':=((hB.setCell (p:=⟨w.heap.size + 1,0,none⟩) (by simp) (.int .i64 0)).setCell (p:=⟨w.heap.size + 1,1,none⟩) (by simp) (.slice none 0 0)).setCell (p:=⟨w.heap.size + 1 + 1,0,none⟩) (by simp;omega) (.bool false)
  have hK':=(((KeepsOthers.setCell W ⟨w.heap.size + 1,0,none⟩ (.int .i64 0)).trans (KeepsOthers.setCell _ ⟨w.heap.size + 1,1,none⟩ (.slice none 0 0))).trans (KeepsOthers.setCell _ ⟨w.heap.size + 1 + 1,0,none⟩ (.bool false))).same D _ hK rfl
  refine⟨by simp,.inl ⟨_,_,rfl,run_takeDeferred hK',?_⟩⟩
  have q10:=(r1'.put (.deferred none) hK' rfl).cell 0
  have q11:=(r1'.put (.deferred none) hK' rfl).cell 1
  have q20:=(r2'.put (.deferred none) hK' rfl).cell 0
  simp at q10 q11 q20
  refine⟨.tuple #[.agg #[.int .i64 0,.slice none 0 0],.bool false],?_,?_,hB'.trans (belowK_b (w:=w) (Nat.le_refl _) _ D _ _ (by omega) hK' rfl rfl)⟩
  rotate_left
  ·unfold re
   rw[wU hne]
  ·simp[results,Tryz.f145,go_sem,q10,q11,q20]
 case stop=>
  rintro D c pre W hD ⟨k,hk,rfl⟩ ⟨⟨rfl,ini,last,e1,e2,e3,r1,r2⟩,hB⟩ hK
  gi_wp2
  refine⟨by simp,.inl ⟨_,_,rfl,run_takeDeferred hK,?_⟩⟩
  have q10:=(r1.put (.deferred none) hK rfl).cell 0
  have q11:=(r1.put (.deferred none) hK rfl).cell 1
  have q20:=(r2.put (.deferred none) hK rfl).cell 0
  simp at q10 q11 q20
  refine⟨.tuple #[.agg #[last.2.k,last.2.f],.bool true],?_,?_,hB.trans (belowK_b (w:=w) (Nat.le_refl _) W D _ _ (by omega) hK rfl rfl)⟩
  rotate_left
  ·unfold re
   rw[wV hk e1 e2 e3]
  ·simp[results,Tryz.f145,go_sem,q10,q11,q20]
end Go.Proofs.YtkkabinknmldeaaGreat
namespace Go.Proofs.YtkkabinknmldeaaGreat
open Go Go.Av Go.RowKit
set_option maxRecDepth 100000
def LJ(S:au)(β:List bn)(y:List UInt8×Int×List AV)(z:dq):Prop:=z.1.data.toList=y.1∧z.2.1=y.2.1∧VR S β (.sl y.2.2) z.f
def kb(S:au)(β:List bn):List (List UInt8×Int×List AV)→List dq→Prop
 | [],zs=>zs=[]
 | y:: l,zs=>∃ z r,zs=z:: r∧LJ S β y z∧kb S β l r
theorem kb.length{S:au}{β:List bn}:{l:List (List UInt8×Int×List AV)} →{zs:List dq} →kb S β l zs→zs.length=l.length
 | [],_,h=>by simp only[kb] at h;simp[h]
 | y:: l,zs,h=>by
  simp only[kb] at h
  obtain⟨z,r,rfl,_,h⟩:=h
  simp[kb.length h]
theorem BO{e:AV}{y:List UInt8×Int×List AV}(h:wu e=some y):e= .agg [.str y.1,.int .i64 y.2.1,.sl y.2.2]:=by
 unfold wu at h
 split at h
 ·cases h;rfl
 ·cases h
theorem MW{S:au}{β:List bn}{b sz:Nat}:(es:List AV)→(off:Nat)→(l:List (List UInt8×Int×List AV))→bI S β es b off sz→fU es=some l→
  ∃ zs:List dq,kb S β l zs∧∀ j,j < zs.length→S b (off + j * 3)=some (.string (zs[j]?.getD default).1)∧S b (off + j * 3 + 1)=some (zs[j]?.getD default).k∧S b (off + j * 3 + 2)=some (zs[j]?.getD default).f
 | [],off,l,_,h=>by
  simp only[fU,Option.some.injEq] at h
  subst h
  exact⟨[],rfl,fun j hj=>by simp at hj⟩
 | e :: es,off,l,he,h=>by
  simp only[fU] at h
  cases h1:wu e with
  | none=>rw[h1] at h;cases h
  | some y=>
   cases h2:fU es with
   | none=>rw[h1,h2] at h;cases h
   | some l'=>
    rw[h1,h2] at h
    simp only[Option.some.injEq] at h
    subst h
    simp only[bI] at he
    obtain⟨⟨v,hv,hs,hc⟩,he⟩:=he
    have:=BO h1
    subst this
    simp only[VR,aM] at hv
    obtain⟨vs,rfl,_,_,rfl,⟨x,rfl,hx⟩,_,_,rfl,rfl,v3,_,rfl,hv3,rfl⟩:=hv
    obtain⟨p,cap,hp,hq1,hq2,hq3⟩:=hv3
    subst hp
    have hsz:sz=3:=by rw[← hs];rfl
    subst hsz
    obtain⟨zs,hR,hZ⟩:=MW es (off + 3) l' he h2
    have c0:=hc 0 _ rfl
    have c1:=hc 1 _ rfl
    have c2:=hc 2 _ rfl
    refine⟨(x,y.2.1,(p,y.2.2.length,cap)):: zs,⟨_,_,rfl,⟨hx,rfl,by simp only[dq.f,VR];exact⟨p,cap,rfl,hq1,hq2,hq3⟩⟩,hR⟩,fun j hj=>?_⟩
    cases j with
    | zero=>exact⟨by simpa using c0,by simpa [dq.k] using c1,by simpa [dq.f] using c2⟩
    | succ j=>
     have:=hZ j (by simpa using hj)
     rw[show off + 3 + j * 3=off + (j + 1) * 3 by omega] at this
     simpa using this
theorem mV{S:au}{β:List bn}{x:ByteArray}{name:List UInt8}(hx:x.data.toList=name):{l:List (List UInt8×Int×List AV)} →{zs:List dq} →kb S β l zs→
  (cm (fun z=>z.1== name) l=none∧cm (fun z:dq=>decide (z.1=x)) zs=none)∨∃ y z,cm (fun z=>z.1== name) l=some y∧cm (fun z:dq=>decide (z.1=x)) zs=some z∧LJ S β y z
 | [],zs,h=>by simp only[kb] at h;subst h;exact .inl ⟨rfl,rfl⟩
 | y :: l,zs,h=>by
  simp only[kb] at h
  obtain⟨z,r,rfl,hz,h⟩:=h
  rcases mV hx h with ⟨h1,h2⟩ | ⟨y',z',h1,h2,h3⟩
  ·have he:(y.1== name)=decide (z.1=x):=by
    rw[← hz.1,← hx]
    by_cases h:z.1=x
    ·subst h;simp
    ·have h':z.1.data.toList≠x.data.toList:=fun h'=>h (ByteArray.ext (Array.ext' h'))
     rw[decide_eq_false h]
     exact beq_eq_false_iff_ne.2 h'
   simp only[cm,h1,h2,he]
   cases decide (z.1=x) with
   | true=>exact .inr ⟨y,z,rfl,rfl,hz⟩
   | false=>exact .inl ⟨rfl,rfl⟩
  ·simp only[cm,h1,h2]
   exact .inr ⟨_,_,rfl,rfl,h3⟩
theorem KU (call:FuncId→List AV→M AV) (args:List AV) (h:Hp) (S:au) (β:List bn) (w:World) (vs:List Value) (hr:lh call args h≠.fail) (hg:sa β h w) (hw:Wf S w) (hh:ca S β w h) (hv:aM S β args vs):
  Calls Tryz.prog 145 vs.toArray w (dl none S β h w (lh call args h)):=by
 unfold lh at hr ⊢
 split at hr
 ·rename_i es name
  cases hl:fU es with
  | none=>rw[hl] at hr;exact absurd rfl hr
  | some l=>
   rw[hl] at hr
   simp only at hr ⊢
   cases hc:decide (l.length≤1000000000) with
   | false=>rw[hc] at hr;exact absurd rfl hr
   | true=>
    simp only[cond_true]
    simp only[aM,VR] at hv
    obtain⟨_,_,rfl,⟨a,cap,rfl,hle,hnil,hq⟩,_,_,rfl,⟨x,rfl,hx⟩,rfl⟩:=hv
    have hlen:∀(es:List AV)(l:List (List UInt8×Int×List AV)),fU es=some l→l.length=es.length:=by
     intro es
     induction es with
     | nil=>intro l h;simp only[fU,Option.some.injEq] at h;subst h;rfl
     | cons e es ih=>
      intro l h
      simp only[fU] at h
      split at h
      ·rename_i h2
       cases h
       simp[ih _ h2]
      ·cases h
    have hll:=hlen es l hl
    have hz:∃ zs:List dq,kb S β l zs∧mA w.heap.size w (.slice a zs.length cap) zs:=by
     cases es with
     | nil=>
      simp only[fU,Option.some.injEq] at hl
      subst hl
      exact⟨[],rfl,.inl ⟨rfl,a,cap,rfl⟩⟩
     | cons e es=>
      cases a with
      | none=>have:=hnil rfl;subst this;simp at hle
      | some q=>
       obtain⟨hs,sz,hE⟩:=hq q rfl
       have hcap:0 < cap:=by simp at hle;omega
       obtain⟨b,off,sp⟩:=q
       have hs':sp=none:=hs hcap
       subst hs'
       obtain⟨zs,hR,hZ⟩:=MW (e:: es) off l hE hl
       refine⟨zs,hR,.inr ⟨b,off,cap,rfl,?_,fun j hj=>?_⟩⟩
       ·have h0:=(hZ 0 (by rw[hR.length,hll];simp)).1
        exact hw.lt h0
       ·obtain⟨h1,h2,h3⟩:=hZ j hj
        exact⟨hw _ _ _ h1,hw _ _ _ h2,hw _ _ _ h3⟩
    obtain⟨zs,hR,hF⟩:=hz
    have hzl:=hR.length
    rw[show es.length=zs.length by omega]
    refine (callsIn_wide (n:=3)).1 ((GX Fence.wide 3 trivial trivial trivial rfl (by omega) a zs.length cap x zs (by have:=of_decide_eq_true hc;omega) w hF).mono ?_)
    rintro e w' ⟨rfl,hb⟩
    refine eI hw hh hb uL ?_
    unfold re zo nY
    rw[← sB]
    rcases mV hx hR with ⟨h1,h2⟩ | ⟨y,z,h1,h2,h3⟩
    ·rw[h1,h2]
     simp only[VR,aM]
     exact⟨_,rfl,_,_,rfl,⟨_,rfl,_,_,rfl,rfl,_,_,rfl,⟨none,0,rfl,Nat.le_refl _,fun _=>rfl,fun q hq=>by cases hq⟩,rfl⟩,_,_,rfl,rfl,rfl⟩
    ·rw[h1,h2]
     obtain⟨_,h4,h5⟩:=h3
     simp only[VR,aM]
     exact⟨_,rfl,_,_,rfl,⟨_,rfl,_,_,rfl,by rw[← h4];rfl,_,_,rfl,h5,rfl⟩,_,_,rfl,rfl,rfl⟩
 ·exact absurd rfl hr
end Go.Proofs.YtkkabinknmldeaaGreat
namespace Go.Proofs.YtkkabinknmldeaaGreat.D
open Go Go.Av Go.Av.Ap
set_option maxRecDepth 100000
noncomputable def pg:Pg:={ T:=T,funcs:=qB mo,own:=own,other:=fun _=>none }
theorem hOther:dx pg:=fun f E h=>by cases h
theorem E184(call:FuncId→List AV→M AV)(fx:bJ AV)(a0:AV):bM (pg.cx call Tryz.f184.ntmps ub) fx Tryz.f184 (own 184) [a0]=S184 call fx a0:=by kernel_rfl
theorem C184(a0:AV):ai pg 184 [a0]=aF (S184 (ai pg) af (cl ax a0)):=(ay hOther rfl rfl rfl _).trans (congrArg aF (E184 _ _ (cl ax a0)))
theorem E84(call:FuncId→List AV→M AV)(fx:bJ AV)(a0 a1:AV):bM (pg.cx call Tryz.f84.ntmps zZ) fx Tryz.f84 (own 84) [a0,a1]=S84 call fx a0 a1:=by kernel_rfl
theorem C84(a0 a1:AV):ai pg 84 [a0,a1]=aF (S84 (ai pg) af (cl ax a0) (cl ax a1)):=(ay hOther rfl rfl rfl _).trans (congrArg aF (E84 _ _ (cl ax a0) (cl ax a1)))
theorem E83(call:FuncId→List AV→M AV)(fx:bJ AV)(a0 a1:AV):bM (pg.cx call Tryz.f83.ntmps Dx) fx Tryz.f83 (own 83) [a0,a1]=S83 call fx a0 a1:=by kernel_rfl
theorem C83(a0 a1:AV):ai pg 83 [a0,a1]=aF (S83 (ai pg) af (cl ax a0) (cl ax a1)):=(ay hOther rfl rfl rfl _).trans (congrArg aF (E83 _ _ (cl ax a0) (cl ax a1)))
@[simp] theorem ve(t:Nat)(a b:aW):am T .gtr t (.str a) (.str b)=some (.bool !(aG a b||a== b)):=rfl
theorem t184(s:aW):ai pg 184 [.str s]=M.pure (.bool false):=by
 rw[C184]
 have e:am T .neq 9 (.str s) (.str s)=some (.bool !(s== s)):=rfl
 simp[S184,e]
theorem t84(a b:aW):ai pg 84 [.str a,.str b]=M.pure (.int .i64 (nK a b)):=by
 rw[C84]
 unfold nK
 cases h1:aG a b with
 | true=>simp[S84,t184,h1]
 | false=>
  by_cases h2:a=b
  ·subst h2
   simp[S84,t184,fN]
  ·have h3:=gl a b h1 h2
   have h4:(a== b)=false:=beq_eq_false_iff_ne.2 h2
   simp[S84,t184,h1,h3,h2]
theorem t83(a b:aW)(x1 x2 x3 x4 y1 y2 y3 y4:AV):ai pg 83 [.agg [.str a,x1,x2,x3,x4],.agg [.str b,y1,y2,y3,y4]]=M.pure (.int .i64 (nK a b)):=by
 rw[C83]
 have f0:∀ cs,aa T 150 (.ip cs) 0=some (.ip (cs.drop 0)):=fun cs=>rfl
 have l0:∀(s:aW)(cs:List AV),aj T 9 (.ip (.str s:: cs))=some (.str s):=fun s cs=>rfl
 simp[S83,cl,ee,ab,f0,l0,t84]
theorem good:@GoodPg ⟨True⟩ Tryz.prog pg:=by
 letI:Dr:=⟨True⟩
 exact⟨tok,qL,(fun f E h=>by cases h),(fun f h=>by cases h)⟩
end Go.Proofs.YtkkabinknmldeaaGreat.D
namespace Go.Proofs.YtkkabinknmldeaaGreat
open Go Go.Av Go.Av.Ap Go.RowKit Go.Sort
set_option maxRecDepth 1000000
theorem PE(keys:List aW)(n:Nat):SWO (ltOf (FV keys n)):=by
 have h:∀ i j,ltOf (FV keys n) i j=aG keys[i % n]! keys[j % n]!:=fun i j=>by
  unfold ltOf FV nK
  cases h1:aG keys[i % n]! keys[j % n]! with
  | true=>simp
  | false=>
   cases h2:aG keys[j % n]! keys[i % n]! <;> simp
 refine⟨fun x=>?_,fun x y z=>?_,fun x y z=>?_⟩
 ·rw[h,fN]
 ·rw[h,h,h]
  exact eX _ _ _
 ·rw[h,h,h]
  intro h1 h2
  cases h3:aG keys[x % n]! keys[z % n]! with
  | false=>rfl
  | true=>
   exfalso
   by_cases e:keys[x % n]! = keys[y % n]!
   ·rw[e,h2] at h3
    cases h3
   ·have:=eX _ _ _ (gl _ _ h1 e) h3
    rw[this] at h2
    cases h2
theorem BS{ev:Nat→List Value}{k:Nat}{w:World}(hg:GOKw w){blk off n:Nat}{d:Array Nat}{os:Array Obj}(hb:gN≤blk):GOKw (sortWorldK ev k w blk off n d os):=
 hg.mono fun b hlt=>iO ev k off n d os (Nat.lt_of_lt_of_le hlt hg.lt) (by omega)
theorem Eb:∀ args w,(callFunc 83 args).run Tryz.prog w= .ok (.enter 83 args) w:=enters_of Tryz.func83 (by kernel_rfl) rfl
theorem MH(a b:aW)(u v:List Value)(hu:∃(x:ByteArray)(r:List Value),u= .string x:: r∧x.data.toList=a)(hv:∃(x:ByteArray)(r:List Value),v= .string x:: r∧x.data.toList=b)(lu:u.length=5)(lv:v.length=5)(W:World)(hg:GOKw W):
  Calls Tryz.prog 83 #[.agg u.toArray,.agg v.toArray] W fun e w'=>e= .returned (.int .i64 (nK a b))∧∃ q os',w'=grow (W.drewN q) os':=by
 letI:Dr:=⟨True⟩
 have hs:∀(s:aW)(u:List Value),(∃(x:ByteArray)(r:List Value),u= .string x:: r∧x.data.toList=s)→u.length=5→VR (jh W) [] (.agg [.str s,.any,.any,.any,.any]) (.agg u.toArray):=by
  rintro s u ⟨x,r,rfl,hx⟩ hl
  obtain⟨r1,r2,r3,r4,rfl⟩:∃ r1 r2 r3 r4,r=[r1,r2,r3,r4]:=by
   match r,hl with
   | [r1,r2,r3,r4],_=>exact⟨r1,r2,r3,r4,rfl⟩
  simp only[VR]
  refine⟨_,rfl,?_⟩
  simp only[aM,VR]
  exact⟨_,_,rfl,⟨x,rfl,hx⟩,_,_,rfl,trivial,_,_,rfl,trivial,_,_,rfl,trivial,_,_,rfl,trivial,rfl⟩
 have hv2:aM (jh W) [] [.agg [.str a,.any,.any,.any,.any],.agg [.str b,.any,.any,.any,.any]] [.agg u.toArray,.agg v.toArray]:=by
  simp only[aM]
  exact⟨_,_,rfl,hs a u hu lu,_,_,rfl,hs b v hv lv,rfl⟩
 have h:=(iS D.good D.hOther 83 [.agg [.str a,.any,.any,.any,.any],.agg [.str b,.any,.any,.any,.any]] [] (jh W) [] W _ (by rw[D.t83];simp[M.pure]) ⟨hg,fun b _ ho=>by obtain⟨l,_,_,h1,_⟩:=ho;simp at h1⟩ (fun _ _ _ h=>h) ⟨rfl,fun _=>.no,fun l cs hl=>by simp at hl⟩ hv2).1
 rw[D.t83] at h
 refine h.mono fun e w' hp=>?_
 obtain⟨S',β',v,rfl,hv,L,_⟩:=hp
 simp only[VR] at hv
 subst hv
 exact⟨rfl,L.grew trivial⟩
theorem IK:∀ w,(isAgg 150).run Tryz.prog w= .ok true w:=fun w=>by kernel_rfl
theorem Hs:∀ w,(Go.sizeOf 150).run Tryz.prog w= .ok 5 w:=fun w=>by kernel_rfl
theorem xR(w:World)(blk off cap:Nat)(keys:List aW)(ev:Nat→List Value)(_h0:0 < keys.length)(hl:∀ i,(ev i).length=5) (h1:∀ i,∀ v∈ev i,v.oneCell'=true)
  (hk:∀ i,∃(x:ByteArray)(r:List Value),ev i= .string x:: r∧x.data.toList=keys[i % keys.length]!) (hg:GOKw w) (hb:gN≤blk) (hH:HoldsK ev 5 w blk off (Array.range keys.length)) (hlt:blk < w.heap.size) (hsz:keys.length < 4611686018427387904):
  Calls Tryz.prog 82 #[.slice (some ⟨blk,off,none⟩) keys.length cap,.func (.func 83) #[] #[]] w fun e w'=>e= .returned (.tuple #[])∧∃ n os,w'=sortWorldK ev 5 w blk off n (fr keys).toArray os:=by
 have:=AnyQ.slices_SortFunc_eq Tryz.laysSortS 5 IK Hs ev hl h1 (FV keys keys.length) (PE keys keys.length) 83 #[] blk off cap (Array.range keys.length) w Eb
  (fun m os dk _ x y=>MH _ _ _ _ (hk x) (hk y) (hl x) (hl y) _ (BS hg hb)) hH hlt (by simpa using hsz)
 rw[Array.size_range] at this
 refine this.mono ?_
 rintro e w' ⟨he,n,os,hw⟩
 refine⟨he,n,os,?_⟩
 rw[hw]
 unfold fr
 simp
theorem Nr(call:FuncId→List AV→M AV)(args:List AV)(h:Hp)(S:au)(β:List bn)(w:World)(vs:List Value)(hr:fV 5 83 call args h≠.fail)(hg:sa β h w)(hw:Wf S w)(hh:ca S β w h)(hv:aM S β args vs):
  Calls Tryz.prog 82 vs.toArray w (dl none S β h w (fV 5 83 call args h)):=by
 have h0:=hr
 unfold fV at hr
 split at hr
 ·rename_i g'
  cases hb:Nat.beq g' 83 with
  | false=>rw[hb] at hr;exact absurd rfl hr
  | true=>
   have e:fV 5 83 call [.sl [],.fn (.func g') [] []] h= .ok (.tup []) h:=by simp only[fV,hb,cond_true]
   rw[e]
   simp only[aM,VR,List.length_nil] at hv
   obtain⟨_,_,rfl,⟨a,cap,rfl,_⟩,v,_,rfl,_,rfl⟩:=hv
   refine (AnyF.slices_SortFunc_none Tryz.laysSortS a cap v w).mono ?_
   rintro e' w' ⟨rfl,rfl⟩
   exact eI hw hh (Below.refl _ _) uL (by simp only[VR,aM];exact⟨[],rfl,rfl⟩)
 ·rename_i g'
  cases hb:Nat.beq g' 83 with
  | false=>rw[hb] at hr;exact absurd rfl hr
  | true=>
   have e:fV 5 83 call [.hn,.fn (.func g') [] []] h= .ok (.tup []) h:=by simp only[fV,hb,cond_true]
   rw[e]
   simp only[aM,VR] at hv
   obtain⟨_,_,rfl,rfl,v,_,rfl,_,rfl⟩:=hv
   refine (AnyF.slices_SortFunc_none Tryz.laysSortS none 0 v w).mono ?_
   rintro e' w' ⟨rfl,rfl⟩
   exact eI hw hh (Below.refl _ _) uL (by simp only[VR,aM];exact⟨[],rfl,rfl⟩)
 ·exact Ex call xR h0 hg hw hh hv
 ·exact absurd rfl hr
end Go.Proofs.YtkkabinknmldeaaGreat
namespace Go.Proofs.YtkkabinknmldeaaGreat.F
open Go Go.Av Go.Av.Ap
set_option maxRecDepth 100000
def Dw:Ann:={ kinds:=[(1,.L),(4,.S)],hl:=[16],nl:=[16,21],lw:=[2,4,8],loops:=[(0,{ vals:=[(10,none),(11,none),(12,none),(2000,none),(2001,none),(3000,none),(3001,none)],locs:=[(1,2000,0),(2,3000,0)],lbs:=[(2000,2),(3000,2)] })] }
def jz:Ann:={ iso:=false,ha:=[7] }
noncomputable def mo:List (Nat×(Func×Ann)):=[(81,(Tryz.f81,Dw))]
def own:FuncId→Option Nat:=fun _=>none
noncomputable def other:FuncId→Option ((FuncId→List AV→M AV)→List AV→M AV):=fun f=>bif Nat.beq f 146 then some (dJ T 23) else none
noncomputable def pg:Pg:={ T:=T,funcs:=qB mo,own:=own,other:=other,nw:=fun f=>bif Nat.beq f 146 then true else false }
theorem hOther:dx pg:=by
 intro f E hE call calls hc
 have h0:other f=some E:=hE
 unfold other at h0
 rcases dv h0 with rfl | h0
 ·exact qn _ _ _ _
 cases h0
noncomputable def L81_0 (call:FuncId→RR) (fx:bJ AV) (a:RR) (b:List AV):M AV:=ae (ah (am T BinOp.lss 3 (nth b 2) (nth b 1))) (fun c=>ap c (ae (ah (ak T 23 (nth b 0) (nth b 2))) (fun d=>ae (bA T 87 d) (fun e=>ae (aC 3 e) (fun f=>ae (ah (aa T 87 (.ip (ab f)) 1)) (fun g=>ae (ah (aj T 72 g)) (fun h=>ae (bY (call 81 [h])) (fun i=>ae (ah (ak T 23 (nth b 4) (nth b 2))) (fun j=>ae (ah (aa T 87 j 1)) (fun k=>ae (bK T 72 k i) (fun l=>ae (ah (am T BinOp.add 3 (nth b 2) (.int IntKind.i64 1))) (fun m=>a [nth b 0,nth b 1,m,nth b 3,nth b 4,nth b 5,nth b 6]))))))))))) (ae (ar 2 [] (.agg [nth b 3,nth b 4])) (fun n=>M.pure (AV.agg [nth (ab n) 0,nth (ab n) 1]))))
theorem XL81_0{call:FuncId→RR}:bB (L81_0 call af) fun _n=>L81_0 call af  :=by
 intro v4 v4s hself v5
 unfold L81_0
 exact (aE.bnd (aE.const _) fun _=>(ao (aE.bnd (aE.const _) fun _=>(aE.bnd (aE.const _) fun _=>(aE.bnd (aE.const _) fun _=>(aE.bnd (aE.const _) fun _=>(aE.bnd (aE.const _) fun _=>(aE.bnd (aE.const _) fun _=>(aE.bnd (aE.const _) fun _=>(aE.bnd (aE.const _) fun _=>(aE.bnd (aE.const _) fun _=>(aE.bnd (aE.const _) fun _=>(hself _))))))))))) (aE.const _)))
theorem FL81_0(call:FuncId→RR)(vs:List AV):af (L81_0 call af) vs=L81_0 call af  (af (L81_0 call af)) vs:=aQ (XL81_0) vs
noncomputable def S81 (call:FuncId→RR) (fx:bJ AV) (a0:AV):M AV:=ae (aC 2 a0) (fun a=>ae (call 146 [nth (ab a) 1]) (fun b=>ae (cq b) (fun c=>ae (ah (aJ T 23 b)) (fun d=>fx (L81_0 call fx) [b,d,.int IntKind.i64 0,nth (ab a) 0,b,.int IntKind.i64 0,.sl []]))))
theorem E81(call:FuncId→List AV→M AV)(fx:bJ AV)(a0:AV):bM (pg.cx call Tryz.f81.ntmps Dw) fx Tryz.f81 (own 81) [a0]=S81 call fx a0:=by kernel_rfl
theorem C81(a0:AV):ai pg 81 [a0]=aF (S81 (ai pg) af (cl ax a0)):=(ay hOther rfl rfl rfl _).trans (congrArg aF (E81 _ _ (cl ax a0)))
end Go.Proofs.YtkkabinknmldeaaGreat.F
namespace Go.Proofs.YtkkabinknmldeaaGreat
open Go Go.Av Go.Av.Ap
set_option maxRecDepth 100000
theorem MJ(e:AV)(es:List AV):bM (sb Tryz.f146.ntmps jz) (cO 0) Tryz.f146 (some 3) [.sl (e:: es)]=ae (ah (dL T 23 (.sl []) (.sl (e:: es)))) fun v=>ae (ah (some v)) M.pure:=by kernel_rfl
theorem ML:bM (sb Tryz.f146.ntmps jz) (cO 0) Tryz.f146 (some 3) [.hn]=ae (ah (some (.sl []))) M.pure:=by kernel_rfl
theorem MM(l off:Nat):bM (sb Tryz.f146.ntmps jz) (cO 0) Tryz.f146 (some 3) [.hs l off 0 1 false]=ae (ah (dL T 23 (.sl []) (.hs l off 0 1 false))) fun v=>ae (ah (some v)) M.pure:=by kernel_rfl
theorem MN(l off:Nat):dL T 23 (.sl []) (.hs l off 0 1 false)=some (.sl []):=by rfl
theorem zA(call:FuncId→List AV→M AV)(args:List AV)(h:Hp)(S:au)(β:List bn)(w:World)(vs:List Value)(hr:fe T 23 call args h≠.fail)(hg:sa β h w)(hw:Wf S w)(hh:ca S β w h)(hv:aM S β args vs):
  Calls Tryz.prog 146 vs.toArray w (dl (some 3) S β h w (fe T 23 call args h)):=by
 have key:∀ es,args=[.sl es]→Calls Tryz.prog 146 vs.toArray w (dl (some 3) S β h w (fe T 23 call args h)):=by
  rintro es rfl
  exact (iV (cx:=sb Tryz.f146.ntmps jz) (own:=some 3) (E:=fun es h=>fe T 23 call [.sl es] h) tok (kY _ _) (pI _ _) Tryz.func146 rfl (fun h=>by rfl) (fun e es h=>by rw[MJ];exact congrFun (ui _) h) (fun h=>by rw[ML];rfl) (fun l off h=>by rw[MM,MN];rfl) hr hg hw hh hv).1
 unfold fe at hr
 split at hr
 ·exact key _ rfl
 ·exact absurd rfl hr
end Go.Proofs.YtkkabinknmldeaaGreat
namespace Go.Proofs.YtkkabinknmldeaaGreat.F
open Go Go.Av Go.Av.Ap
set_option maxRecDepth 100000
theorem M3(e:AV)(es:List AV):bM (sb Tryz.f146.ntmps jz) (cO 0) Tryz.f146 none [.sl (e:: es)]=ae (appH T 23 true (.sl []) (.sl (e:: es))) fun v=>ae (ah (some v)) M.pure:=by kernel_rfl
theorem M4:bM (sb Tryz.f146.ntmps jz) (cO 0) Tryz.f146 none [.hn]=ae (ah (some (.sl []))) M.pure:=by kernel_rfl
theorem M5(l off:Nat):bM (sb Tryz.f146.ntmps jz) (cO 0) Tryz.f146 none [.hs l off 0 1 false]=ae (appH T 23 true (.sl []) (.hs l off 0 1 false)) fun v=>ae (ah (some v)) M.pure:=by kernel_rfl
theorem zA(call:FuncId→List AV→M AV)(args:List AV)(h:Hp)(S:au)(β:List bn)(w:World)(vs:List Value)(hr:dJ T 23 call args h≠.fail)(hg:sa β h w)(hw:Wf S w)(hh:ca S β w h)(hv:aM S β args vs):
  Calls Tryz.prog 146 vs.toArray w (dl none S β h w (dJ T 23 call args h)):=by
 have key:∀ es,args=[.sl es]→Calls Tryz.prog 146 vs.toArray w (dl none S β h w (dJ T 23 call args h)):=by
  rintro es rfl
  exact (iV (cx:=sb Tryz.f146.ntmps jz) (E:=fun es h=>dJ T 23 call [.sl es] h) tok (kY _ _) (pI _ _) Tryz.func146 rfl (fun h=>by rfl) (fun e es h=>by rw[M3];exact congrFun (ui _) h) (fun h=>by rw[M4];rfl) (fun l off h=>by rw[M5];rfl) hr hg hw hh hv).1
 unfold dJ at hr
 split at hr
 ·exact key _ rfl
 ·exact absurd rfl hr
theorem vj:(mo.map fun x=>Tryz.prog.funcs[x.1]?)=mo.map fun x=>some x.2.1:=by kernel_rfl
theorem mq:(mo.map fun x=>x.2.1.name== "runtime.NumGoroutine")=mo.map fun _=>false:=by kernel_rfl
theorem O4{f k:Nat}{α:Type}{x y:α}{o:Option α}(h:(bif Nat.beq f k then some x else o)=some y):(f=k∧x=y)∨o=some y:=by
 cases hb:Nat.beq f k with
 | true=>rw[hb] at h;exact .inl ⟨Nat.eq_of_beq_eq_true hb,by simpa using h⟩
 | false=>rw[hb] at h;exact .inr h
theorem good:GoodPg Tryz.prog pg where
 tok:=tok
 funcs:=fun f fn a h=>by
  have:=nP mo f (fn,a) h
  exact⟨fX vj _ this,fX mq _ this⟩
 other:=by
  intro f E hE call hC args h S β w vs hr hg hw hh hv
  have h0:other f=some E:=hE
  unfold other at h0
  rcases O4 h0 with ⟨rfl,rfl⟩ | h0
  ·exact⟨zA call args h S β w vs hr hg hw hh hv,by kernel_rfl⟩
  cases h0
 nw:=by
  intro f hf
  have h0:(bif Nat.beq f 146 then true else false)=true:=hf
  cases hb:Nat.beq f 146 with
  | true=>
   have:=Nat.eq_of_beq_eq_true hb
   subst this
   exact⟨_,rfl,fun call args=>sY _ _ _ _⟩
  | false=>rw[hb] at h0;cases h0
theorem aV{α β:Type}{m:M α}{a:α}{h h':Hp}(e:m h= .ok a h')(f:α→M β):ae m f h=f a h':=by simp only[ae,e]
theorem Ie(x:cr):(ab (bj x)).length=3:=by simp
theorem kw(l:List cr):aH l= .sl (l.map bj):=by rw[aH,dn]
theorem EN{q:Nat}{l:List cr}{i:Nat}{h:Hp}(hi:i < l.length)(hq:h[q]? = some (rowOf bj l)):bA T 87 (.hp q (0 + i * 3)) h= .ok (bj l[i]) h:=by
 have hlen:=fu (f:=bj) Ie l
 rw[B9 (T:=T) (t:=87) rfl rfl hq (show 0 + i * 3 + 3≤_ by omega)]
 show R.ok (AV.agg (((rowOf bj l).drop (0 + i * 3)).take 3)) h=_
 rw[Nat.zero_add,gC Ie l i hi,dm,gu]
theorem FA{q:Nat}{l:List cr}{i:Nat}{h:Hp}(hi:i < l.length)(hq:h[q]? = some (rowOf bj l)):bK T 72 (.hp q (0 + i * 3 + 1)) l[i].2.av h= .ok (.tup []) h:=by
 have hlen:=fu (f:=bj) Ie l
 refine xU (T:=T) (t:=72) rfl hq (Ap.nd _) (show 0 + i * 3 + 1 + 2≤_ by omega) (by decide) ?_
 have:=gC Ie l i hi
 have h2:((rowOf bj l).drop (0 + i * 3 + 1)).take 2=(((rowOf bj l).drop (i * 3)).take 3).drop 1:=by
  rw[List.drop_take,List.drop_drop]
  congr 2
  omega
 rw[dI]
 show ((rowOf bj l).drop (0 + i * 3 + 1)).take 2=_
 rw[h2,this,dm]
 rfl
theorem Pl{q n i:Nat}(h:i < n):ak T 23 (.hs q 0 n 3 true) (.int .i64 (i:Int))=some (.hp q (0 + i * 3)):=by
 have e:ak T 23 (.hs q 0 n 3 true) (.int .i64 (i:Int))=if 0≤(i:Int)∧(i:Int) < (n:Int) then some (.hp q (0 + (i:Int).toNat * 3)) else none:=rfl
 rw[e,if_pos (by omega),Int.toNat_natCast]
theorem KL(t:Ty)(hb:t.fields.length≤4611686018427387904)(hk:∀ f∈t.fields,ai pg 81 [f.2.av]=M.pure f.2.av)(q:Nat)(h:Hp)(hq:h[q]? = some (rowOf bj t.fields))(x5 x6:AV):∀(n i:Nat),t.fields.length - i=n→i≤t.fields.length→
  af (L81_0 (ai pg) af) [.hs q 0 t.fields.length 3 true,.int .i64 t.fields.length,.int .i64 i,.int .i64 t.kind,.hs q 0 t.fields.length 3 true,x5,x6] h= .ok (.agg [.int .i64 t.kind,.hs q 0 t.fields.length 3 true]) h:=by
 intro n
 induction n with
 | zero=>
  intro i hn hi
  rw[FL81_0]
  have h1:¬ ((i:Int) < (t.fields.length:Int)):=by omega
  have h2:ar 2 [] (.agg [.int .i64 t.kind,.hs q 0 t.fields.length 3 true])=M.pure (.agg [.int .i64 t.kind,.hs q 0 t.fields.length 3 true]):=aR rfl
  simp[L81_0,h1,h2,M.pure]
 | succ n ih=>
  intro i hn hi
  have hlt:i < t.fields.length:=by omega
  have h1:(i:Int) < (t.fields.length:Int):=by omega
  have ih':=ih (i + 1) (by omega) (by omega)
  have hw:IntKind.i64.wrap ((i:Int) + 1)=((i + 1:Nat):Int):=bG (by omega)
  have hc:=hk t.fields[i] (List.getElem_mem hlt)
  rw[← ih']
  generalize hcode:af (L81_0 (ai pg) af) [.hs q 0 t.fields.length 3 true,.int .i64 t.fields.length,.int .i64 i,.int .i64 t.kind,.hs q 0 t.fields.length 3 true,x5,x6] h=code
  rw[FL81_0] at hcode
  simp -implicitDefEqProofs only[L81_0,bu,bD,cN,aT,bz,h1,decide_true,if_true,Pl hlt] at hcode
  rw[aV (EN hlt hq)] at hcode
  simp -implicitDefEqProofs only[qh,bi,dm,FA87_1,aT,List.drop_succ_cons,List.drop_zero,LD72,List.length_cons,List.length_nil,Nat.zero_add,Nat.reduceAdd,Nat.le_refl,if_true,List.take_succ_cons,List.take_zero,eA,hc,ff,FH87_1] at hcode
  rw[show (i * 3 + 1)=0 + i * 3 + 1 by omega] at hcode
  rw[aV (FA hlt hq)] at hcode
  simp -implicitDefEqProofs only[fA,aT,hw] at hcode
  rw[← hcode]
theorem t81:∀(d:Nat)(t:Ty),xb d t→ai pg 81 [t.av]=M.pure t.av
 | 0,t,h=>h.elim
 | d + 1,t,h=>by
  have hlen:t.fields.length≤100:=h.1
  have ih:∀ f∈t.fields,ai pg 81 [f.2.av]=M.pure f.2.av:=fun f hf=>t81 d f.2 (h.2 f hf)
  have e0:ai pg 146 [aH t.fields]=dJ T 23 (ai pg) [aH t.fields]:=cS hOther rfl _
  have e1:=yM (T:=T) (t:=23) (f:=bj) (sz:=3) rfl rfl rfl rfl rfl (by decide) (by decide) (fun x=>iG x) (ai pg) t.fields (show t.fields.length * 48≤140737488355328 by omega) []
  rw[← kw,← e0] at e1
  rw[C81]
  funext hp
  show aF _ hp=R.ok t.av hp
  by_cases hf:t.fields=[]
  ·rw[if_pos hf] at e1
   have e2:ar 2 [] (.agg [.int .i64 t.kind,.sl []])=M.pure (.agg [.int .i64 t.kind,.sl []]):=aR rfl
   have key:S81 (ai pg) af (cl ax t.av) []= .ok (.agg [.int .i64 t.kind,.sl []]) []:=by
    simp only[S81,vX,fS,bi,dI,bu,bD]
    rw[aV e1]
    simp only[cq,aO,cond_true,aT,Hy]
    rw[FL81_0]
    simp[L81_0,e2,M.pure]
   unfold aF
   rw[key]
   have:(AV.agg [.int .i64 t.kind,.sl []])=t.av:=by rw[← eA,hf];rfl
   rw[this]
   simp only[R.ok.injEq,and_true]
   exact (Clean.frz (fun g=>vX g t) 6 [])
  ·rw[if_neg hf] at e1
   have hq:([]++[rowOf bj t.fields]:Hp)[0]? = some (rowOf bj t.fields):=rfl
   have key:S81 (ai pg) af (cl ax t.av) []= .ok (.agg [.int .i64 t.kind,.hs 0 0 t.fields.length 3 true]) ([]++[rowOf bj t.fields]):=by
    simp only[S81,vX,fS,bi,dI,bu,bD]
    rw[aV e1]
    simp only[cq,aO,cond_true,aT,IF,List.length_nil]
    exact KL t (by omega) ih 0 _ hq _ _ t.fields.length 0 rfl (by omega)
   unfold aF
   rw[key]
   have hfr:=nS (f:=bj) Ie (fun x=>by rw[dm,gu]) (fun x g=>DT g x) (by decide) hq 5
   have:iE 6 ([]++[rowOf bj t.fields]) (.agg [.int .i64 t.kind,.hs 0 0 t.fields.length 3 true])=t.av:=by
    rw[← eA,kw,← hfr]
    rfl
   show R.ok (iE 6 _ _) hp=_
   rw[this]
end Go.Proofs.YtkkabinknmldeaaGreat.F
namespace Go.Proofs.YtkkabinknmldeaaGreat
open Go Go.Av Go.Av.Ap
theorem Nq(call:FuncId→List AV→M AV)(args:List AV)(h:Hp)(S:au)(β:List bn)(w:World)(vs:List Value)(hr:kW call args h≠.fail)(hg:sa β h w)(hw:Wf S w)(hh:ca S β w h)(hv:aM S β args vs):
  Calls Tryz.prog 81 vs.toArray w (dl none S β h w (kW call args h)):=by
 unfold kW at hr ⊢
 split at hr
 ·rename_i v
  cases hc:Hw 5 v with
  | false=>rw[hc] at hr;exact absurd rfl hr
  | true=>
   obtain⟨t,rfl,ht⟩:=yc 5 v hc
   have e:=congrFun (F.t81 5 t ht) h
   have:=(iS F.good F.hOther 81 [t.av] h S β w vs (by rw[e];simp[M.pure]) hg hw hh hv).1
   rw[e] at this
   exact this
 ·exact absurd rfl hr
theorem tz:∀(d:Nat)(t:Ty),dC d t=true→xb d t
 | 0,t,h=>by cases h
 | d + 1,t,h=>by
  rw[i7] at h
  simp only[Bool.and_eq_true,decide_eq_true_eq,List.all_eq_true] at h
  exact⟨by have:=h.1.1.2;omega,fun f hf=>tz d f.2 (h.2.1 f hf).2⟩
end Go.Proofs.YtkkabinknmldeaaGreat
namespace Go.Proofs.YtkkabinknmldeaaGreat
open Go Go.Av Go.Av.Ap Go.RowKit
set_option maxRecDepth 100000
theorem Er{e:AV}{y:aW×AV}(h:wD e=some y):∃ s0 b1 l2 n3 l4 n5 n6 n7 s8 s9 l10 l11,e= .agg [.str s0,.bool b1,.sl l2,.int .i64 n3,.sl l4,.int .i64 n5,.int .i64 n6,.int .i64 n7,.str s8,.str s9,.sl l10,.sl l11]∧y=(s0,.agg [.str s0,.bool b1,.sl l2,.int .i64 n3,.sl l4,.int .i64 n5,.int .i64 n6,.int .i64 n7,.str s8,.str s9,.sl l10,.sl l11]):=by
 unfold wD at h
 split at h
 ·cases h;exact⟨_,_,_,_,_,_,_,_,_,_,_,_,rfl,rfl⟩
 ·cases h
theorem ES{e:AV}{m:aW×List (aW×AV)}(h:zt e=some m):∃ s0 l1 l2 l3 l4 b5 l6 l7 l8,e= .agg [.str s0,.sl l1,.sl l2,.sl l3,.sl l4,.bool b5,.sl l6,.sl l7,.sl l8]∧∃ l,l4.mapM wD=some l∧m=(s0,l):=by
 unfold zt at h
 split at h
 ·rename_i s _ _ _ fs _ _ _ _
  cases hl:fs.mapM wD with
  | none=>rw[hl] at h;cases h
  | some l=>rw[hl] at h;simp only[Option.map_some,Option.some.injEq] at h;exact⟨_,_,_,_,_,_,_,_,_,rfl,l,hl,h.symm⟩
 ·cases h
theorem lF{α γ:Type}{f:α→Option γ}{x:α}{xs:List α}{l:List γ}(h:(x:: xs).mapM f=some l):∃ y ys,f x=some y∧xs.mapM f=some ys∧l=y:: ys:=by
 rw[List.mapM_cons] at h
 cases h1:f x with
 | none=>rw[h1] at h;cases h
 | some y=>
  cases h2:xs.mapM f with
  | none=>rw[h1,h2] at h;cases h
  | some ys=>
   rw[h1,h2] at h
   simp only[Option.pure_def,Option.bind_eq_bind,Option.bind_some,Option.some.injEq] at h
   exact⟨y,ys,rfl,rfl,h.symm⟩
theorem Ar{S:au}{β:List bn}{b sz:Nat}:(es:List AV)→(off:Nat)→(l:List (aW×AV))→bI S β es b off sz→es.mapM wD=some l→
  ∃ zs:List F12,iR S β l zs∧zs.length=es.length∧∀ j,j < zs.length→S b (off + j * 12)=some (.string (zs[j]?.getD default).n)∧S b (off + j * 12 + 1)=some (zs[j]?.getD default).a1∧S b (off + j * 12 + 2)=some (zs[j]?.getD default).a2∧S b (off + j * 12 + 3)=some (zs[j]?.getD default).a3∧S b (off + j * 12 + 4)=some (zs[j]?.getD default).a4∧S b (off + j * 12 + 5)=some (zs[j]?.getD default).a5∧S b (off + j * 12 + 6)=some (zs[j]?.getD default).a6∧S b (off + j * 12 + 7)=some (zs[j]?.getD default).a7∧S b (off + j * 12 + 8)=some (zs[j]?.getD default).a8∧S b (off + j * 12 + 9)=some (zs[j]?.getD default).a9∧S b (off + j * 12 + 10)=some (zs[j]?.getD default).a10∧S b (off + j * 12 + 11)=some (zs[j]?.getD default).a11
 | [],off,l,_,h=>by
  simp at h
  subst h
  exact⟨[],rfl,rfl,fun j hj=>by simp at hj⟩
 | e:: es,off,l,he,h=>by
  obtain⟨y,l',h1,h2,rfl⟩:=lF h
  simp only[bI] at he
  obtain⟨⟨v,hv,hs,hc⟩,he⟩:=he
  obtain⟨s0,b1,l2,n3,l4,n5,n6,n7,s8,s9,l10,l11,rfl,rfl⟩:=Er h1
  have hv0:=hv
  simp only[VR,aM] at hv
  obtain⟨vs,rfl,_,_,rfl,⟨x0,rfl,hx0⟩,_,_,rfl,rfl,_,_,rfl,⟨p2,c2,rfl,hp2⟩,_,_,rfl,rfl,_,_,rfl,⟨p4,c4,rfl,hp4⟩,_,_,rfl,rfl,_,_,rfl,rfl,_,_,rfl,rfl,_,_,rfl,⟨x8,rfl,hx8⟩,_,_,rfl,⟨x9,rfl,hx9⟩,_,_,rfl,⟨p10,c10,rfl,hp10⟩,_,_,rfl,⟨p11,c11,rfl,hp11⟩,rfl⟩:=hv
  have hsz:sz=12:=by rw[← hs];rfl
  subst hsz
  obtain⟨zs,hR,hl,hZ⟩:=Ar es (off + 12) l' he h2
  refine⟨⟨x0,.bool b1,.slice p2 l2.length c2,.int .i64 n3,.slice p4 l4.length c4,.int .i64 n5,.int .i64 n6,.int .i64 n7,.string x8,.string x9,.slice p10 l10.length c10,.slice p11 l11.length c11⟩:: zs,⟨_,_,rfl,⟨hx0,hv0,⟨_,rfl⟩,⟨_,_,_,rfl⟩,⟨_,rfl⟩,⟨_,_,_,rfl⟩,⟨_,rfl⟩,⟨_,rfl⟩,⟨_,rfl⟩,⟨_,rfl⟩,⟨_,rfl⟩,⟨_,_,_,rfl⟩,⟨_,_,_,rfl⟩⟩,hR⟩,by simp[hl],fun j hj=>?_⟩
  cases j with
  | zero=>exact⟨by simpa using hc 0 _ rfl,by simpa using hc 1 _ rfl,by simpa using hc 2 _ rfl,by simpa using hc 3 _ rfl,by simpa using hc 4 _ rfl,by simpa using hc 5 _ rfl,by simpa using hc 6 _ rfl,by simpa using hc 7 _ rfl,by simpa using hc 8 _ rfl,by simpa using hc 9 _ rfl,by simpa using hc 10 _ rfl,by simpa using hc 11 _ rfl⟩
  | succ j=>
   have:=hZ j (by simpa using hj)
   rw[show off + 12 + j * 12=off + (j + 1) * 12 by omega] at this
   simpa using this
theorem AD{S:au}{β:List bn}{w:World}(hw:Wf S w){b sz:Nat}:(es:List AV)→(off:Nat)→(l:List (aW×List (aW×AV)))→bI S β es b off sz→es.mapM zt=some l→
  ∃ zs:List M9,jg S β w l zs∧zs.length=es.length∧∀ j,j < zs.length→S b (off + j * 9)=some (.string (zs[j]?.getD default).n)∧S b (off + j * 9 + 1)=some (zs[j]?.getD default).a1∧S b (off + j * 9 + 2)=some (zs[j]?.getD default).a2∧S b (off + j * 9 + 3)=some (zs[j]?.getD default).a3∧S b (off + j * 9 + 4)=some (zs[j]?.getD default).a4∧S b (off + j * 9 + 5)=some (zs[j]?.getD default).a5∧S b (off + j * 9 + 6)=some (zs[j]?.getD default).a6∧S b (off + j * 9 + 7)=some (zs[j]?.getD default).a7∧S b (off + j * 9 + 8)=some (zs[j]?.getD default).a8
 | [],off,l,_,h=>by
  simp at h
  subst h
  exact⟨[],rfl,rfl,fun j hj=>by simp at hj⟩
 | e :: es,off,l,he,h=>by
  obtain⟨y,l',h1,h2,rfl⟩:=lF h
  simp only[bI] at he
  obtain⟨⟨v,hv,hs,hc⟩,he⟩:=he
  obtain⟨s0,l1,l2,l3,l4,b5,l6,l7,l8,rfl,fl,hfl,rfl⟩:=ES h1
  simp only[VR,aM] at hv
  obtain⟨vs,rfl,_,_,rfl,⟨x0,rfl,hx0⟩,_,_,rfl,⟨p1,c1,rfl,hp1⟩,_,_,rfl,⟨p2,c2,rfl,hp2⟩,_,_,rfl,⟨p3,c3,rfl,hp3⟩,_,_,rfl,⟨p4,c4,rfl,hp4⟩,_,_,rfl,rfl,_,_,rfl,⟨p6,c6,rfl,hp6⟩,_,_,rfl,⟨p7,c7,rfl,hp7⟩,_,_,rfl,⟨p8,c8,rfl,hp8⟩,rfl⟩:=hv
  have hsz:sz=9:=by rw[← hs];rfl
  subst hsz
  obtain⟨zs,hR,hl,hZ⟩:=AD hw es (off + 9) l' he h2
  have hf:∃ fz,iR S β fl fz∧i9 w.heap.size w.heap.size w (.slice p4 l4.length c4) fz:=by
   cases hl4:l4 with
   | nil=>
    subst hl4
    simp at hfl
    subst hfl
    exact⟨[],rfl,.inl ⟨rfl,_,_,rfl⟩⟩
   | cons f fs=>
    rw[hl4] at hp4 hfl
    obtain⟨q1,q2,q3⟩:=hp4
    cases p4 with
    | none=>have:=q2 rfl;rw[this] at q1;simp at q1
    | some q=>
     obtain⟨g1,sz,g2⟩:=q3 q rfl
     obtain⟨qb,qo,qp⟩:=q
     have hqp:qp=none:=g1 (by simp at q1;omega)
     subst hqp
     obtain⟨fz,r1,r2,r3⟩:=Ar (f:: fs) qo fl g2 hfl
     refine⟨fz,r1,.inr ⟨qb,qo,c4,by rw[r2],?_,?_,fun j hj=>?_⟩⟩
     ·exact hw.lt (r3 0 (by rw[r2];simp)).1
     ·exact Nat.ne_of_lt (hw.lt (r3 0 (by rw[r2];simp)).1)
     ·obtain⟨d0,d1,d2,d3,d4,d5,d6,d7,d8,d9,d10,d11⟩:=r3 j hj
      exact⟨hw _ _ _ d0,hw _ _ _ d1,hw _ _ _ d2,hw _ _ _ d3,hw _ _ _ d4,hw _ _ _ d5,hw _ _ _ d6,hw _ _ _ d7,hw _ _ _ d8,hw _ _ _ d9,hw _ _ _ d10,hw _ _ _ d11⟩
  obtain⟨fz,hf1,hf2⟩:=hf
  refine⟨⟨x0,.slice p1 l1.length c1,.slice p2 l2.length c2,.slice p3 l3.length c3,.slice p4 l4.length c4,.bool b5,.slice p6 l6.length c6,.slice p7 l7.length c7,.slice p8 l8.length c8⟩:: zs,⟨_,_,rfl,⟨hx0,fz,hf1,hf2,⟨_,_,_,rfl⟩,⟨_,_,_,rfl⟩,⟨_,_,_,rfl⟩,⟨_,_,_,rfl⟩,⟨_,rfl⟩,⟨_,_,_,rfl⟩,⟨_,_,_,rfl⟩,⟨_,_,_,rfl⟩⟩,hR⟩,by simp[hl],fun j hj=>?_⟩
  cases j with
  | zero=>exact⟨by simpa using hc 0 _ rfl,by simpa using hc 1 _ rfl,by simpa using hc 2 _ rfl,by simpa using hc 3 _ rfl,by simpa using hc 4 _ rfl,by simpa using hc 5 _ rfl,by simpa using hc 6 _ rfl,by simpa using hc 7 _ rfl,by simpa using hc 8 _ rfl⟩
  | succ j=>
   have:=hZ j (by simpa using hj)
   rw[show off + 9 + j * 9=off + (j + 1) * 9 by omega] at this
   simpa using this
theorem Nt (call:FuncId→List AV→M AV) (args:List AV) (h:Hp) (S:au) (β:List bn) (w:World) (vs:List Value) (hr:qS call args h≠.fail) (hg:sa β h w) (hw:Wf S w) (hh:ca S β w h) (hv:aM S β args vs):
  Calls Tryz.prog 88 vs.toArray w (dl none S β h w (qS call args h)):=by
 unfold qS at hr ⊢
 split at hr
 ·rename_i ms
  cases hm:ms.mapM zt with
  | none=>rw[hm] at hr;exact absurd rfl hr
  | some l=>
   rw[hm] at hr
   simp only at hr ⊢
   by_cases hc:l.length≤1000000∧∀ m∈l,m.2.length≤1000000
   ·rw [if_pos hc]
    simp only[aM,VR] at hv
    obtain⟨_,_,rfl,⟨a,cap,rfl,hle,hnil,hq⟩,rfl⟩:=hv
    have hzs:∃ zs:List M9,jg S β w l zs∧ms.length=zs.length∧(zs=[]∨∃ b off,a=some ⟨b,off,none⟩∧b < w.heap.size∧pQ w b off zs):=by
     cases hms:ms with
     | nil=>
      subst hms
      simp at hm
      subst hm
      exact⟨[],rfl,rfl,.inl rfl⟩
     | cons e es=>
      rw[hms] at hm hle hq
      cases a with
      | none=>have:=hnil rfl;simp at hle;omega
      | some q=>
       obtain⟨g1,sz,g2⟩:=hq q rfl
       obtain⟨qb,qo,qp⟩:=q
       have hqp:qp=none:=g1 (by simp at hle;omega)
       subst hqp
       obtain⟨zs,r1,r2,r3⟩:=AD hw (e:: es) qo l g2 hm
       refine⟨zs,r1,r2.symm,.inr ⟨qb,qo,rfl,?_,fun j hj=>?_⟩⟩
       ·exact hw.lt (r3 0 (by rw[r2];simp)).1
       ·obtain⟨d0,d1,d2,d3,d4,d5,d6,d7,d8⟩:=r3 j hj
        exact⟨hw _ _ _ d0,hw _ _ _ d1,hw _ _ _ d2,hw _ _ _ d3,hw _ _ _ d4,hw _ _ _ d5,hw _ _ _ d6,hw _ _ _ d7,hw _ _ _ d8⟩
    obtain⟨zs,hR,hlen,hcl⟩:=hzs
    have:=Ku Fence.wide 20 trivial trivial trivial rfl (by decide) S β a ms.length cap zs l w hR hlen hc hcl
    rw[callsIn_wide] at this
    refine this.mono ?_
    rintro e w' ⟨bo,rfl,hbo,hmap,hB⟩
    exact BA hw hh hB uL hbo hmap
   ·rw[if_neg hc] at hr;exact absurd rfl hr
 ·exact absurd rfl hr
theorem O5{α:Type}{f k:Nat}{x:α}{o:Option α}{y:α}(h:(bif Nat.beq f k then some x else o)=some y):(f=k∧x=y)∨o=some y:=by
 cases hb:Nat.beq f k with
 | true=>rw[hb] at h;exact .inl ⟨Nat.eq_of_beq_eq_true hb,by simpa using h⟩
 | false=>rw[hb] at h;exact .inr h
theorem DJ{α:Type}{f k:Nat}{x y:α}{o:Option α}{P:Prop}(h1:f=k→x=y→P)(h2:o=some y→P)(h:(bif Nat.beq f k then some x else o)=some y):P:=(O5 h).elim (fun h=>h1 h.1 h.2) h2
theorem good:GoodPg Tryz.prog pg where
 tok:=tok
 funcs:=qL
 other:=by
  intro f E hE call hC args h S β w vs hr hg hw hh hv
  have h0:other f=some E:=hE
  unfold other at h0
  revert h0
  repeat' refine DJ ?_ ?_
  all_goals first
   | (intro h0;cases h0;done)
   | (rintro rfl rfl;exact absurd rfl hr)
   | (rintro rfl rfl;exact⟨Nt call args h S β w vs hr hg hw hh hv,by kernel_rfl⟩)
   | (rintro rfl rfl;exact⟨Ns call args h S β w vs hr hg hw hh hv,by kernel_rfl⟩)
   | (rintro rfl rfl;exact⟨KX call args h S β w vs hr hg hw hh hv,by kernel_rfl⟩)
   | (rintro rfl rfl;exact⟨KW call args h S β w vs hr hg hw hh hv,by kernel_rfl⟩)
   | (rintro rfl rfl;exact⟨KY call args h S β w vs hr hg hw hh hv,by kernel_rfl⟩)
   | (rintro rfl rfl;exact⟨Nr call args h S β w vs hr hg hw hh hv,by kernel_rfl⟩)
   | (rintro rfl rfl;exact⟨zA call args h S β w vs hr hg hw hh hv,by kernel_rfl⟩)
   | (rintro rfl rfl;exact⟨Nq call args h S β w vs hr hg hw hh hv,by kernel_rfl⟩)
   | (rintro rfl rfl;exact⟨KU call args h S β w vs hr hg hw hh hv,by kernel_rfl⟩)
   | (rintro rfl rfl;exact⟨KV call args h S β w vs hr hg hw hh hv,by kernel_rfl⟩)
   | (rintro rfl rfl;exact⟨Le call hC args h S β w vs hr hg hw hh hv,by kernel_rfl⟩)
 nw:=by
  intro f hf
  have h0:(bif Nat.beq f 166 then true else false)=true:=hf
  cases hb:Nat.beq f 166 with
  | true=>
   have:=Nat.eq_of_beq_eq_true hb
   subst this
   exact⟨_,rfl,fun call args=>sY _ _ _ _⟩
  | false=>rw[hb] at h0;cases h0
end Go.Proofs.YtkkabinknmldeaaGreat
namespace Go.Proofs.YtkkabinknmldeaaGreat
open Go Go.Av Go.ChangeShapes Go.WideShapes Go.ChangeAt Go.RowKit
set_option maxRecDepth 1000000
theorem Pp:ownKnob Tryz.prog.godebug=none:=by kernel_rfl
theorem Kq{W:World}(hS:W.ShapedOpen Tryz.prog):GOKw W:=by
 refine⟨?_⟩
 exact cell_of_shapedOpen_int (zero:=#[.int .i64 0]) (t:=3) hS (of_decide_eq_true (by kernel_rfl)) (by kernel_rfl) rfl (by kernel_rfl) (by kernel_rfl) Tryz.underlying3
noncomputable def tt (os:Os):World:=World.holding Tryz.prog os ⟨#[],#[],[]⟩
end Go.Proofs.YtkkabinknmldeaaGreat
