/- What the functions compute, part 5. Conditions: bounds. -/
import Derived.Test.YtkkdcdofponfiaaGreatTd
import Derived.Shelf.SlGeneric
import Derived.Ground.SlsfProg
import Derived.Ground.NamesProg
import Derived.Shelf.Lays
import Derived.Shelf.Strings.Search3
import Derived.Shelf.SlSortCmp.NoneTotal
import Derived.Tactics
import Derived.Tactics2
import Derived.Defers
import Derived.Recover
set_option linter.defProp false
set_option linter.unusedSimpArgs false
set_option linter.unusedVariables false
namespace Go.Proofs
open Go.Shelf
def aas:Go.Shelf.Ren:=⟨fun|6=>67|15=>87|14=>115|28=>136|29=>137|20=>153|21=>154|22=>155|23=>156|24=>157|25=>158|26=>159|27=>160|46=>181|47=>174|48=>175|49=>182|50=>183|57=>188|n=>n,fun|22=>68|24=>53|25=>153|3=>3|39=>172|0=>0|53=>215|55=>217|4=>4|46=>208|45=>207|50=>212|5=>5|9=>9|66=>247|70=>251|76=>258|77=>259|n=>n,fun|n=>n⟩
def aae:Go.Proofs.SlLaysF0.n6 Tryz.prog aas:={
 mixed:=BT
 f6:=⟨Tryz.f67.name,Vc,Tryz.func67.trans (aaY some BT)⟩
 f14:=⟨Tryz.f115.name,Vc,Tryz.func115.trans (aaY some BT)⟩
 f15:=Tryz.func87.trans (aaY some BT)
 f20:=⟨Tryz.f153.name,Vc,Tryz.func153.trans (aaY some BT)⟩
 f21:=⟨Tryz.f154.name,Vc,Tryz.func154.trans (aaY some BT)⟩
 f22:=⟨Tryz.f155.name,Vc,Tryz.func155.trans (aaY some BT)⟩
 f23:=⟨Tryz.f156.name,Vc,Tryz.func156.trans (aaY some BT)⟩
 f24:=⟨Tryz.f157.name,Vc,Tryz.func157.trans (aaY some BT)⟩
 f25:=⟨Tryz.f158.name,Vc,Tryz.func158.trans (aaY some BT)⟩
 f26:=⟨Tryz.f159.name,Vc,Tryz.func159.trans (aaY some BT)⟩
 f27:=⟨Tryz.f160.name,Vc,Tryz.func160.trans (aaY some BT)⟩
 f28:=Tryz.func136.trans (aaY some BT)
 f29:=Tryz.func137.trans (aaY some BT)
 f46:=⟨Tryz.f181.name,Vc,Tryz.func181.trans (aaY some BT)⟩
 f47:=Tryz.func174.trans (aaY some BT)
 f48:=Tryz.func175.trans (aaY some BT)
 f49:=⟨Tryz.f182.name,Vc,Tryz.func182.trans (aaY some BT)⟩
 f50:=⟨Tryz.f183.name,Vc,Tryz.func183.trans (aaY some BT)⟩
 f57:=⟨Tryz.f188.name,Vc,Tryz.func188.trans (aaY some BT)⟩
 t0:=Tryz.underlying0
 a0:=Tryz.isAgg0
 z0:=Tryz.sizeOf0
 v0:=Tryz.zeroValue0
 t3:=Tryz.underlying3
 a3:=Tryz.isAgg3
 z3:=Tryz.sizeOf3
 v3:=Tryz.zeroValue3
 t4:=Tryz.underlying4
 a4:=Tryz.isAgg4
 z4:=Tryz.sizeOf4
 v4:=Tryz.zeroValue4
 t5:=Tryz.underlying5
 a5:=Tryz.isAgg5
 z5:=Tryz.sizeOf5
 v5:=Tryz.zeroValue5
 t9:=Tryz.underlying9
 a9:=Tryz.isAgg9
 z9:=Tryz.sizeOf9
 v9:=Tryz.zeroValue9
 t22:=Tryz.underlying68
 a22:=Tryz.isAgg68
 z22:=Tryz.sizeOf68
 v22:=Tryz.zeroValue68
 t25:=Tryz.underlying153
 a25:=Tryz.isAgg153
 z25:=Tryz.sizeOf153
 v25:=Tryz.zeroValue153
 t39:=Tryz.underlying172
 a39:=Tryz.isAgg172
 z39:=Tryz.sizeOf172
 v39:=Tryz.zeroValue172
 t45:=Tryz.underlying207
 a45:=Tryz.isAgg207
 z45:=Tryz.sizeOf207
 v45:=Tryz.zeroValue207
 t46:=Tryz.underlying208
 a46:=Tryz.isAgg208
 z46:=Tryz.sizeOf208
 v46:=Tryz.zeroValue208
 t50:=Tryz.underlying212
 a50:=Tryz.isAgg212
 z50:=Tryz.sizeOf212
 v50:=Tryz.zeroValue212
 t53:=Tryz.underlying215
 a53:=Tryz.isAgg215
 z53:=Tryz.sizeOf215
 v53:=Tryz.zeroValue215
 t55:=Tryz.underlying217
 a55:=Tryz.isAgg217
 z55:=Tryz.sizeOf217
 v55:=Tryz.zeroValue217
 t66:=Tryz.underlying247
 a66:=Tryz.isAgg247
 z66:=Tryz.sizeOf247
 v66:=Tryz.zeroValue247
 t70:=Tryz.underlying251
 a70:=Tryz.isAgg251
 z70:=Tryz.sizeOf251
 v70:=Tryz.zeroValue251
 t76:=Tryz.underlying258
 a76:=Tryz.isAgg258
 z76:=Tryz.sizeOf258
 v76:=Tryz.zeroValue258
 t77:=Tryz.underlying259
 a77:=Tryz.isAgg259
 z77:=Tryz.sizeOf259
 v77:=Tryz.zeroValue259 }
def aar:Go.Shelf.Ren:=⟨fun|6=>42|15=>87|14=>86|28=>136|29=>137|20=>128|21=>129|22=>130|23=>131|24=>132|25=>133|26=>134|27=>135|46=>173|47=>174|48=>175|49=>176|50=>177|57=>185|n=>n,fun|22=>86|24=>121|25=>124|3=>3|39=>172|0=>0|53=>215|55=>217|4=>4|46=>208|45=>207|50=>212|5=>5|9=>9|66=>247|70=>251|76=>258|77=>259|n=>n,fun|n=>n⟩
def aaf:Go.Proofs.SlLaysF0.n6 Tryz.prog aar:={
 mixed:=BT
 f6:=⟨Tryz.f42.name,Vc,Tryz.func42.trans (aaY some BT)⟩
 f14:=⟨Tryz.f86.name,Vc,Tryz.func86.trans (aaY some BT)⟩
 f15:=Tryz.func87.trans (aaY some BT)
 f20:=⟨Tryz.f128.name,Vc,Tryz.func128.trans (aaY some BT)⟩
 f21:=⟨Tryz.f129.name,Vc,Tryz.func129.trans (aaY some BT)⟩
 f22:=⟨Tryz.f130.name,Vc,Tryz.func130.trans (aaY some BT)⟩
 f23:=⟨Tryz.f131.name,Vc,Tryz.func131.trans (aaY some BT)⟩
 f24:=⟨Tryz.f132.name,Vc,Tryz.func132.trans (aaY some BT)⟩
 f25:=⟨Tryz.f133.name,Vc,Tryz.func133.trans (aaY some BT)⟩
 f26:=⟨Tryz.f134.name,Vc,Tryz.func134.trans (aaY some BT)⟩
 f27:=⟨Tryz.f135.name,Vc,Tryz.func135.trans (aaY some BT)⟩
 f28:=Tryz.func136.trans (aaY some BT)
 f29:=Tryz.func137.trans (aaY some BT)
 f46:=⟨Tryz.f173.name,Vc,Tryz.func173.trans (aaY some BT)⟩
 f47:=Tryz.func174.trans (aaY some BT)
 f48:=Tryz.func175.trans (aaY some BT)
 f49:=⟨Tryz.f176.name,Vc,Tryz.func176.trans (aaY some BT)⟩
 f50:=⟨Tryz.f177.name,Vc,Tryz.func177.trans (aaY some BT)⟩
 f57:=⟨Tryz.f185.name,Vc,Tryz.func185.trans (aaY some BT)⟩
 t0:=Tryz.underlying0
 a0:=Tryz.isAgg0
 z0:=Tryz.sizeOf0
 v0:=Tryz.zeroValue0
 t3:=Tryz.underlying3
 a3:=Tryz.isAgg3
 z3:=Tryz.sizeOf3
 v3:=Tryz.zeroValue3
 t4:=Tryz.underlying4
 a4:=Tryz.isAgg4
 z4:=Tryz.sizeOf4
 v4:=Tryz.zeroValue4
 t5:=Tryz.underlying5
 a5:=Tryz.isAgg5
 z5:=Tryz.sizeOf5
 v5:=Tryz.zeroValue5
 t9:=Tryz.underlying9
 a9:=Tryz.isAgg9
 z9:=Tryz.sizeOf9
 v9:=Tryz.zeroValue9
 t22:=Tryz.underlying86
 a22:=Tryz.isAgg86
 z22:=Tryz.sizeOf86
 v22:=Tryz.zeroValue86
 t25:=Tryz.underlying124
 a25:=Tryz.isAgg124
 z25:=Tryz.sizeOf124
 v25:=Tryz.zeroValue124
 t39:=Tryz.underlying172
 a39:=Tryz.isAgg172
 z39:=Tryz.sizeOf172
 v39:=Tryz.zeroValue172
 t45:=Tryz.underlying207
 a45:=Tryz.isAgg207
 z45:=Tryz.sizeOf207
 v45:=Tryz.zeroValue207
 t46:=Tryz.underlying208
 a46:=Tryz.isAgg208
 z46:=Tryz.sizeOf208
 v46:=Tryz.zeroValue208
 t50:=Tryz.underlying212
 a50:=Tryz.isAgg212
 z50:=Tryz.sizeOf212
 v50:=Tryz.zeroValue212
 t53:=Tryz.underlying215
 a53:=Tryz.isAgg215
 z53:=Tryz.sizeOf215
 v53:=Tryz.zeroValue215
 t55:=Tryz.underlying217
 a55:=Tryz.isAgg217
 z55:=Tryz.sizeOf217
 v55:=Tryz.zeroValue217
 t66:=Tryz.underlying247
 a66:=Tryz.isAgg247
 z66:=Tryz.sizeOf247
 v66:=Tryz.zeroValue247
 t70:=Tryz.underlying251
 a70:=Tryz.isAgg251
 z70:=Tryz.sizeOf251
 v70:=Tryz.zeroValue251
 t76:=Tryz.underlying258
 a76:=Tryz.isAgg258
 z76:=Tryz.sizeOf258
 v76:=Tryz.zeroValue258
 t77:=Tryz.underlying259
 a77:=Tryz.isAgg259
 z77:=Tryz.sizeOf259
 v77:=Tryz.zeroValue259 }
def aau:Go.Shelf.Ren:=⟨fun|144=>119|143=>165|219=>184|217=>189|225=>190|224=>191|267=>192|266=>193|314=>194|n=>n,fun|9=>9|4=>4|3=>3|5=>5|46=>172|146=>264|51=>215|n=>n,fun|1=>0|n=>n⟩
def aaz:Go.Proofs.Lays.n144 Tryz.prog aau:={
 mixed:=BT
 f143:=Tryz.func165.trans (aaY some BT)
 f144:=Tryz.func119.trans (aaY some BT)
 f217:=Tryz.func189.trans (aaY some BT)
 f219:=Tryz.func184.trans (aaY some BT)
 f224:=Tryz.func191.trans (aaY some BT)
 f225:=Tryz.func190.trans (aaY some BT)
 f266:=Tryz.func193.trans (aaY some BT)
 f267:=Tryz.func192.trans (aaY some BT)
 f314:=Tryz.func194.trans (aaY some BT)
 t3:=Tryz.underlying3
 a3:=Tryz.isAgg3
 z3:=Tryz.sizeOf3
 v3:=Tryz.zeroValue3
 t4:=Tryz.underlying4
 a4:=Tryz.isAgg4
 z4:=Tryz.sizeOf4
 v4:=Tryz.zeroValue4
 t5:=Tryz.underlying5
 a5:=Tryz.isAgg5
 z5:=Tryz.sizeOf5
 v5:=Tryz.zeroValue5
 t9:=Tryz.underlying9
 a9:=Tryz.isAgg9
 z9:=Tryz.sizeOf9
 v9:=Tryz.zeroValue9
 t46:=Tryz.underlying172
 a46:=Tryz.isAgg172
 z46:=Tryz.sizeOf172
 v46:=Tryz.zeroValue172
 t51:=Tryz.underlying215
 a51:=Tryz.isAgg215
 z51:=Tryz.sizeOf215
 v51:=Tryz.zeroValue215
 t146:=Tryz.underlying264
 a146:=Tryz.isAgg264
 z146:=Tryz.sizeOf264
 v146:=Tryz.zeroValue264
 g1:=by kernel_rfl }
end Go.Proofs
namespace Go.Proofs.YtkkdcdofponfiaaGreat.C
open Go Go.Av Go.Av.Ap
set_option maxRecDepth 100000
noncomputable def pg:Pg:={ T:=T,funcs:=xD se,own:=own,other:=fun _=>none }
def hOther:eY pg:=fun f E h=>by cases h
def E88(call:FuncId->List AV->M AV)(fx:aX AV)(a0:AV):cB (pg.cx call Tryz.f88.ntmps L1) fx Tryz.f88 (own 88) [a0]=S88 call fx a0:=BT
def C88(a0:AV):callW pg 88 [a0]=aI (S88 (callW pg) ae (cl ao a0)):=(hP hOther rfl rfl rfl _).trans (aaY aI (E88 _ _ (cl ao a0)))
def E44(call:FuncId->List AV->M AV)(fx:aX AV)(a0 a1:AV):cB (pg.cx call Tryz.f44.ntmps L0) fx Tryz.f44 (own 44) [a0,a1]=S44 call fx a0 a1:=BT
def C44(a0 a1:AV):callW pg 44 [a0,a1]=aI (S44 (callW pg) ae (cl ao a0) (cl ao a1)):=(hP hOther rfl rfl rfl _).trans (aaY aI (E44 _ _ (cl ao a0) (cl ao a1)))
def E116(call:FuncId->List AV->M AV)(fx:aX AV)(a0:AV):cB (pg.cx call Tryz.f116.ntmps LY) fx Tryz.f116 (own 116) [a0]=S116 call fx a0:=BT
def C116(a0:AV):callW pg 116 [a0]=aI (S116 (callW pg) ae (cl ao a0)):=(hP hOther rfl rfl rfl _).trans (aaY aI (E116 _ _ (cl ao a0)))
def E68(call:FuncId->List AV->M AV)(fx:aX AV)(a0 a1:AV):cB (pg.cx call Tryz.f68.ntmps Q4) fx Tryz.f68 (own 68) [a0,a1]=S68 call fx a0 a1:=BT
def C68(a0 a1:AV):callW pg 68 [a0,a1]=aI (S68 (callW pg) ae (cl ao a0) (cl ao a1)):=(hP hOther rfl rfl rfl _).trans (aaY aI (E68 _ _ (cl ao a0) (cl ao a1)))
theorem JJ(t:Nat)(a b:az):dC T .gtr t (.str a) (.str b)=some (.bool !(aK a b||a== b)):=rfl
def ub(x y:az):Int:=if aK x y=true then -1 else if aK y x=true then 1 else 0
theorem t88(s:az):callW pg 88 [.str s]=af (.bool false):=by
 rw[C88];have e:dC T .neq 9 (.str s) (.str s)=some (.bool !(s== s)):=rfl;simp[S88,e]
def t44(a b:az):callW pg 44 [.str a,.str b]=af (.int .i64 (ub a b)):=by
 rw[C44];unfold ub;cases h1:aK a b with
 |true=>simp[S44,t88,h1]
 |false=>
  by_cases h2:a=b
  all_goals simp_all[S44,t88,JJ,kR]
def CP(l:List Int)(hb:l.length<=1099511627776):∀(n:Nat)(i:Int),l.length-i.toNat=n->0<=i->i<=l.length->
  ae (L116_0 (callW pg) ae) [qi 0,ints l,qi l.length,qi i]=af (.int .i64 (((l.drop i.toNat).find? fun x=>!(x== 0)).getD 0)):=by
 intro n
 induction n with
 |zero=>
  intro i hn hi hl;rw[FL116_0];simp only[L116_0];have h1:¬(i<(l.length:Int)):=WD
  have h2:l.drop i.toNat=[]:=List.drop_eq_nil_of_le WD;simp[h1,h2]
 | succ n ih=>
  intro i hn hi hl;have h1:i<(l.length:Int):=WD
  have hlt:i.toNat<l.length:=WD
  have h4:=ih (i+1) WD WD WD;rw[show (i+1).toNat=i.toNat+1 by omega]at h4;rw[FL116_0,List.drop_eq_getElem_cons hlt];simp only[L116_0,abG];by_cases h0:l[i.toNat]=0
  ·simp (disch:=omega) [h1,aD,LJ,h4,h0,aaG l i.toNat hlt]
  ·have h0':(l[i.toNat]== 0)=false:=aaN.2 h0;simp (disch:=omega) [h1,aD,LJ,h0,h0',aaG l i.toNat hlt]
def t116(l:List Int)(hb:l.length<=1099511627776):callW pg 116 [ints l]=af (.int .i64 ((l.find? fun x=>!(x== 0)).getD 0)):=by
 rw[C116];simp[S116,CP l hb l.length 0 rfl WD WD]
def t68(a b:aA):callW pg 68 [bE a,bE b]=af (.int .i64 (xp a b)):=by
 rw[C68];have hB:∀x y:Int,ay T 35 2 [(0,qi x),(1,qi y)]=some (ints [x,y]):=fun x y=>rfl;have hc:(([ub a.1 b.1,ub a.2 b.2].find? fun x=>!(x== 0)).getD 0)=xp a b:=by
  unfold xp ub zU;have e1:=nh a.1;have e2:=nh a.2;cases h1:aK a.1 b.1 with
  |true=>simp
  | false=>
   cases h2:aK b.1 a.1 with
   |true=>
    grind
   | false=>
    have:a.1=b.1:=by
     by_cases e:a.1=b.1
     ·exact e
     ·grind [kR]
    grind
 simp_all[S68,t44,t116]
def good:@GoodPg ⟨True⟩ Tryz.prog pg:=by
 letI:Dr:=⟨True⟩
 exact⟨tok,xU,(fun f E h=>by cases h),(fun f h=>by cases h)⟩
end Go.Proofs.YtkkdcdofponfiaaGreat.C
namespace Go.Proofs.YtkkdcdofponfiaaGreat
open Go Go.Av Go.Av.Ap Go.RowKit Go.Sort
set_option maxRecDepth 1000000
def M4{w:World}(hg:GOKw w){blk off n:Nat}{d:Array aA}{os:Array Obj}(hb:gN<=blk):GOKw (sortWorldK eH 2 w blk off n d os):=
 hg.mono fun b hlt=>mF eH 2 off n d os (Nat.lt_of_lt_of_le hlt hg.lt) WD
def ME:∀args w,(callFunc 68 args).run Tryz.prog w= .ok (.enter 68 args) w:=enters_of Tryz.func68 BT rfl
def Iy(S:ak)(β:List bG)(x:aA):VR S β (bE x) (.agg (eH x).toArray):=by
 simp only[bE,VR];exact⟨eH x,rfl,ud.vr S β x⟩
def Xh(x y:aA)(W:World)(hg:GOKw W):Calls Tryz.prog 68 #[.agg (eH x).toArray,.agg (eH y).toArray] W fun e w'=>e= .returned (.int .i64 (xp x y))/\∃q os',w'=grow (W.drewN q) os':=by
 letI:Dr:=⟨True⟩
 have hv:aZ (mJ W) [] [bE x,bE y] [.agg (eH x).toArray,.agg (eH y).toArray]:=by
  simp only[aZ];exact⟨_,_,rfl,Iy _ _ x,_,_,rfl,Iy _ _ y,rfl⟩
 have h:=(mS C.good C.hOther 68 [bE x,bE y] [] (mJ W) [] W _ (by rw[C.t68];simp[af]) ⟨hg,fun b _ ho=>by obtain⟨l,_,_,h1,_⟩:=ho;simp at h1,Dy hg⟩ (fun _ _ _ h=>h) ⟨rfl,fun _=>.no,fun l cs hl=>by simp at hl⟩ hv).1;rw[C.t68]at h;refine h.mono fun e w' hp=>?_;obtain⟨S',β',v,rfl,hv,L,_⟩:=hp;simp only[VR]at hv;subst hv;exact⟨rfl,L.grew trivial⟩
def VO:∀w,(isAgg 53).run Tryz.prog w= .ok true w:=fun w=>BT
def UE:∀w,(Go.sizeOf 53).run Tryz.prog w= .ok 2 w:=fun w=>BT
theorem zg(w:World)(blk off cap:Nat)(d:Array aA)(hg:GOKw w)(hb:gN<=blk)(hH:HoldsK fq.ev fq.k w blk off d)(hlt:blk<w.heap.size)(hsz:d.size<4611686018427387904):
  Calls Tryz.prog 67 #[.slice (some ⟨blk,off,none⟩) d.size cap,.func (.func 68) #[] #[]] w fun e w'=>e= .returned (.tuple #[])/\∃n os,w'=sortWorldK fq.ev fq.k w blk off n (ko d.toList).toArray os:=by
 have:=AnyQ.slices_SortFunc_eq aae 2 VO UE eH (fun _=>rfl) ud.one xp Yu 68 #[] blk off cap d w ME
  (fun m os dk _ x y=>Xh x y _ (M4 hg hb)) hH hlt hsz
 refine this.mono ?_;simp_all[ko,fq]
theorem X6(call:FuncId->List AV->M AV)(args:List AV)(h:Hp)(S:ak)(β:List bG)(w:World)(vs:List Value)(hr:kP 68 call args h≠.fail)(hg:zA S β h w)(hw:Wf S w)(hh:dh S β w h)(hv:aZ S β args vs):
  Calls Tryz.prog 67 vs.toArray w (eF none S β h w (kP 68 call args h)):=by
 by_cases hf:∃o',args=[.hn,.fn (.func o') [] []]
 ·obtain⟨o',rfl⟩:=hf;have e:kP 68 call [.hn,.fn (.func o') [] []] h=(bif Nat.beq o' 68 then R.ok (.tup []) h else R.fail):=rfl;rw[e]at hr |-;cases hb:Nat.beq o' 68 with
  |false=>grind
  |true=>
   simp only[aZ,VR]at hv;obtain⟨_,_,rfl,rfl,v,_,rfl,_,rfl⟩:=hv;refine (AnyF.slices_SortFunc_none aae none 0 v w).mono ?_;rintro e' w' ⟨rfl,rfl⟩;exact gR hw hh (Below.refl _ _) CY (by simp only[VR,aZ];grind)
 ·have e:kP 68 call args h=rb fq 68 ko call args h:=by
   unfold kP;split
   ·grind
   ·rfl
  rw[e]at hr |-;have h0:=hr;unfold rb at h0;split at h0
  ·rename_i g';cases hb:Nat.beq g' 68 with
   |false=>grind
   |true=>
    have e:rb fq 68 ko call [.sl [],.fn (.func g') [] []] h= .ok (.tup []) h:=by simp only[rb,hb,aaF]
    rw[e];simp only[aZ,VR,aaW]at hv;obtain⟨_,_,rfl,⟨a,cap,rfl,_⟩,v,_,rfl,_,rfl⟩:=hv;refine (AnyF.slices_SortFunc_none aae a cap v w).mono ?_;rintro e' w' ⟨rfl,rfl⟩;exact gR hw hh (Below.refl _ _) CY (by simp only[VR,aZ];grind)
  ·grind [QJ,ud,zg]
  grind
end Go.Proofs.YtkkdcdofponfiaaGreat
namespace Go.Proofs.YtkkdcdofponfiaaGreat
open Go Go.Av Go.Av.Ap Go.RowKit Go.Shelf Go.Sort
attribute [local go_sem] Oper.semAt_some
set_option maxRecDepth 100000
def Tl(F:Fence)(n:Nat)(h2:F.fn 179)(h3:F.fn 187)(hro:F.round=none)(hn:4<=n)(g:Nat)(lb:Array Value)(hFg:F.fn g)(eg:∀args w,(callFunc g args).run Tryz.prog w= .ok (.enter g args) w)(S Sp:List lz->Prop)(N:Nat)(hN:N<=1000000)(w:World)(hseq:SeqStopsK F (n-1-1) Tryz.prog g lb (fun x:lz=>#[qQ x]) KeepsWalks S Sp N w):
  CallsIn F n Tryz.prog 179 #[.func (.func g) #[] lb] w fun e w'=>∃v ss,e= .returned v/\S ss/\w'.ownsRow w.heap.size 53 2 v ss.length (ss.flatMap ma)/\(v= .slice none 0 0↔ss=[])/\Below w.heap.size w w':=by
 have h1:1<=n:=WD
 refine callsIn_of_wp Tryz.func179 rfl h2 ?_ hro;simp only[Tryz.ntmps179,abp,aaX,aaW,Nat.reduceAdd,Nat.reduceSub,abw,abx,abJ,abC,aaU,aa2]
 gi_wp2_with (gi_at_call 187;refine (SR F (n-1) h3 hro WD g lb hFg eg S Sp N hN _ hseq).mono ?_;rintro e w' ⟨v,ss,rfl,hS,hrow,hnil,hb⟩)
 go_ret
 exact⟨v,ss,rfl,hS,hrow,hnil,hb⟩
def gZ(x:lz):aA:=(x.1.data.toList,x.2.data.toList)
def MH(x:lz):eH (gZ x)=ma x:=by
 simp only[eH,gZ,ma,str_eq (rfl:x.1.data.toList=_),str_eq (rfl:x.2.data.toList=_)]
def PE(ss:List lz):((ss.map gZ).map eH).flatten=ss.flatMap ma:=by
 simp_all[List.flatMap_def,ab2,MH]
def Io{w:World}{b n₀:Nat}(enc:aA->List Value)(k off n:Nat)(d:Array aA)(os:Array Obj)(hb:n₀<=b)(hn:n₀<=w.heap.size):Below n₀ w (sortWorldK enc k w b off n d os):=by
 have hg:=zh (w:=w) (b:=b) enc k off n d os;exact⟨hg.os,hg.tape,hg.out,hg.size,fun i hi=>mF enc k off n d os WD WD⟩
def H5{W:World}{base n:Nat}{v:Value}{ss:List lz}(h:W.ownsRow base 53 2 v n (ss.flatMap ma))(hn:n=ss.length)(hne:ss≠[]):
  ∃b cap cur,v= .slice (some ⟨b,0,none⟩) n cap/\base<=b/\W.heap[b]? = some (.cells cur 53 (0,0))/\n<=cap/\cur.size=cap*2/\HoldsK eH 2 W b 0 (ss.map gZ).toArray:=by
 rcases h.2 with⟨_,h0⟩|⟨b,cap,cur,hv,hb,hc,h1,_,h2,h3⟩
 ·grind
 ·refine⟨b,cap,cur,hv,hb,hc,h1,h2,fun j hj=>?_⟩;have hfl:=j0 eH 2 (fun _=>rfl) Vc (ss.map gZ).toArray;have hsz:(flatK eH 2 (ss.map gZ).toArray).size=ss.length*2:=by rw[size_flatK];simp
  rw[hsz]at hj;have hjc:j<cur.size:=by rw[h2];omega
  have e1:(flatK eH 2 (ss.map gZ).toArray)[j]! = cur[j]:=by
   have g1:(flatK eH 2 (ss.map gZ).toArray).toList[j]? = cur.toList[j]?:=by
    rw[hfl,show (ss.map gZ).toArray.toList=ss.map gZ from rfl,PE,<- h3,abM,aaH WD]
   rw[abo,abo,abd WD,abd hjc]at g1;rw[aaG _ j WD];exact abz g1
  simp_all[World.cell?,World.frozen?]
set_option maxHeartbeats 1000000 in
def Dn(g:Nat)(lb:Array Value)(eg:∀args w,(callFunc g args).run Tryz.prog w= .ok (.enter g args) w)(S Sp:List lz->Prop)(N:Nat)(hN:N<=1000000)(hS1:∀ss,S ss->ss.length=N)(w:World)(hgok:GOKw w)(hseq:∀n,5<=n->SeqStopsK Fence.wide n Tryz.prog g lb (fun x:lz=>#[qQ x]) KeepsWalks S Sp N w):
  Calls Tryz.prog 151 #[.func (.func g) #[] lb,.func (.func 68) #[] #[]] w fun e w'=>∃v ss,e= .returned v/\S ss/\Below w.heap.size w w'/\
   ((ss=[]/\v= .slice none 0 0)\/∃b cap x,v= .slice (some ⟨b,0,none⟩) ss.length cap/\ss.length<=cap/\w.heap.size<=b/\Row w' b x/\x.size=cap*2/\x.toList.take (ss.length*2)=((fo (ss.map gZ)).map eH).flatten):=by
 rw[<- callsIn_wide (n:=20)];have h1:1<=20:=Vc
 have f1:Fence.wide.fn 179:=trivial;have f2:Fence.wide.fn 67:=trivial;have hcol:=Tl Fence.wide 19 trivial trivial rfl Vc g lb trivial eg S Sp N hN w (hseq _ Vc);refine callsIn_of_wp Tryz.func151 rfl trivial ?_ rfl;simp only[Tryz.ntmps151,abp,aaX,aaW,Nat.reduceAdd,Nat.reduceSub,abw,abx,abJ,abC,aaU,aa2]
 gi_wp2_with (gi_at_call 179;refine hcol.mono ?_;rintro e w1 ⟨v,ss,rfl,hS,hrow,hnil,hb⟩)
 by_cases hss:ss=[]
 ·have hv:=hnil.2 hss;subst hv hss;have hsrt:CallsIn Fence.wide 19 Tryz.prog 67 #[.slice none 0 0,.func (.func 68) #[] #[]] w1 _:=callsIn_wide.2 (AnyF.slices_SortFunc_none aae none 0 (.func (.func 68) #[] #[]) w1)
  gi_wp2_with (gi_at_call 67;refine hsrt.mono ?_;rintro e w2 ⟨rfl,rfl⟩)
  go_ret
  simp_all
 ·obtain⟨b,cap,cur,rfl,hbb,hcur,hcap,hcs,hH⟩:=H5 hrow rfl hss;have hbl:b<w1.heap.size:=(aaQ.1 hcur).1;have hsl:ss.length<4611686018427387904:=by rw[hS1 ss hS];omega
  have hg1:GOKw w1:=hgok.mono fun k hk=>hb.block k (Nat.lt_of_lt_of_le hk hgok.lt);have hsrt0:=zg w1 b 0 cap (ss.map gZ).toArray hg1 (abK hgok.lt hbb) hH hbl (by simpa using hsl);rw[show (ss.map gZ).toArray.size=ss.length by simp]at hsrt0;have hsrt:CallsIn Fence.wide 19 Tryz.prog 67 #[.slice (some ⟨b,0,none⟩) ss.length cap,.func (.func 68) #[] #[]] w1 _:=callsIn_wide.2 hsrt0
  gi_wp2_with (gi_at_call 67;refine hsrt.mono ?_;rintro e w2 ⟨rfl,m,os,rfl⟩)
  go_ret
  have hrow1:Row w1 b cur:=⟨_,hcur⟩;rw[uH];have hlen:(fo (ss.map gZ)).length=ss.length:=by rw[lR];simp
  have hfl:=j0 eH 2 (fun _=>rfl) Vc (fo (ss.map gZ)).toArray;have hfs:(flatK eH 2 (fo (ss.map gZ)).toArray).size=ss.length*2:=by rw[size_flatK];simp[hlen]
  have hr2:=zi hrow1 eH 2 0 m (fo (ss.map gZ)).toArray os qr;refine⟨_,ss,rfl,hS,hb.trans (Io eH 2 0 m _ os hbb hb.size),.inr ⟨b,cap,_,rfl,hcap,hbb,hr2,?_,?_⟩⟩
  all_goals grind
theorem PT{S:ak}{β:List bG}:{es:List AV} ->{ents:List MapEntry} ->{ks:List aA} ->lS S β es ents->es.mapM Fb=some ks->∃rs:List lz,rs.map gZ=ks/\ents.map (·.key)=rs.map qQ:=by
 intro es
 induction es with
 |nil=>
  intro ents ks h hk;have hl:=h.1;simp at hl hk;subst hk;cases ents with
  |nil=>simp_all
  |cons x r=>simp at hl
 | cons e es ih=>
  intro ents ks h hk;cases ents with
  |nil=>have:=h.1;simp at this
  | cons x ents=>
   rw[adt]at hk;cases h1:Fb e with
   |none=>grind
   | some k=>
    cases h2:es.mapM Fb with
    |none=>grind
    | some ks'=>
     rw[h1,h2]at hk;simp only[Option.pure_def,Option.bind_eq_bind,acN,aaB]at hk;subst hk;obtain⟨rs,hr1,hr2⟩:=ih (ents:=ents) ⟨by have:=h.1;grind,fun i a y ha hy=>h.2 (i+1) a y (by simpa using ha) (by simpa using hy)⟩ h2;obtain⟨kk,vv,rfl,hkk,_⟩:=h.2 0 e x rfl rfl;unfold Fb at h1;split at h1
     ·rename_i a b v he;simp only[AV.tup.injEq,abQ,acw]at he;obtain⟨rfl,rfl⟩:=he;simp only[aaB]at h1;subst h1;simp only[VR,aZ]at hkk;obtain⟨_,hx,_,_,rfl,⟨y1,rfl,hy1⟩,_,_,rfl,⟨y2,rfl,hy2⟩,rfl⟩:=hkk;refine⟨(y1,y2):: rs,?_,?_⟩
      all_goals grind [gZ,qQ]
     ·cases h1
theorem QV{S:ak}{β:List bG}{b cap:Nat}{x:Array Value}{l:List aA}(hl:l.length<=cap)(hx:x.size=cap*2)(ht:x.toList.take (l.length*2)=(l.map eH).flatten):
  VR (S.withRowTo b x.size x) β (bg l) (.slice (some ⟨b,0,none⟩) l.length cap):=by
 simp only[bg,VR,abA];refine⟨some ⟨b,0,none⟩,cap,rfl,hl,(fun h=>by cases h),fun q hq=>?_⟩;simp only[aaB]at hq;subst hq;refine⟨fun _=>rfl,2,.of_get fun i e he=>?_⟩;rw[aby]at he;cases hi:l[i]? with
 |none=>grind
 | some r=>
  rw[hi]at he;simp only[abq,aaB]at he;subst he;have hil:=kd hi;refine⟨.agg (eH r).toArray,Iy _ _ r,rfl,fun j v hj=>?_⟩;have hj2:j<2:=by
   have:=kd hj
   simpa [Value.cells,eH]using this
  have hg:(l.map eH).flatten[i*2+j]? = some v:=by
   rw[pL eH 2 (fun _=>rfl) Vc,show (i*2+j) / 2=i by omega,show (i*2+j) % 2=j by omega,hi];simpa [Value.cells]using hj
  rw[<- ht,abM,aaH WD,abo]at hg;unfold ak.withRowTo
  grind
def Uq(call:FuncId->List AV->M AV)(args:List AV)(h:Hp)(S:ak)(β:List bG)(w:World)(vs:List Value)(hr:tL [180,180] 68 call args h≠.fail)(hg:zA S β h w)(hw:Wf S w)(hh:dh S β w h)(hv:aZ S β args vs):
  Calls Tryz.prog 151 vs.toArray w (eF none S β h w (tL [180,180] 68 call args h)):=by
 unfold tL at hr |-;split at hr
 ·rename_i g x o';cases hb:dF [180,180] g&&Nat.beq 68 o' with
  |false=>grind
  | true =>
   rw[hb]at hr;simp only[aaF]at hr |-;cases hes:mb h x with
   |none=>grind
   | some es=>
    rw[hes]at hr;simp only at hr |-;cases hks:es.mapM Fb with
    |none=>grind
    | some ks=>
     rw[hks]at hr;simp only at hr |-;by_cases hlen:ks.length<=1000000
     ·rw [aaH hlen]at hr |-;simp only[aaD]at hb;have ho:o'=68:=(Nat.eq_of_beq_eq_true hb.2).symm;subst ho;simp only[aZ,VR]at hv;obtain⟨_,_,rfl,⟨_,_,rfl,rfl,_,_,rfl,⟨Bm,Bo,cs,rfl,⟨xv,_,rfl,hxv,rfl⟩,hcell⟩,rfl⟩,_,_,rfl,⟨_,_,rfl,rfl,rfl⟩,rfl⟩:=hv;have hBs:S Bm Bo=some xv:=hcell 0 xv rfl;have hBc:=hw _ _ _ hBs;have hBl:=hw.lt hBs;have hh0:=hh;obtain⟨_,ω,hH⟩:=hh;have hkeys:∃rs:List lz,rs.map gZ=ks/\((w.cell? ⟨Bm,Bo,none⟩=some (.map none)/\rs=[])\/∃b es clock,w.cell? ⟨Bm,Bo,none⟩=some (.map (some b))/\w.heap[b]? = some (.map es clock)/\oC es.toList clock/\es.toList.map (·.key)=rs.map qQ):=by
       unfold mb at hes;split at hes
       ·rename_i l;split at hes
        ·rename_i es' hl;simp only[aaB]at hes;subst hes;simp only[VR]at hxv;obtain⟨⟨b,z⟩,hbl,h0,rfl⟩:=hxv;simp only at h0;subst h0;obtain⟨ents,clock,g1,g2,g3,_⟩:=hH.mapRow hl hbl
         grind [PT]
        ·cases hes
       ·simp only[aaB]at hes;subst hes;simp only[VR]at hxv
        grind
       ·cases hes
      obtain⟨rs,hrs,hc⟩:=hkeys;have hgen:∀g',(∀args w,(callFunc g' args).run Tryz.prog w= .ok (.enter g' args) w)->
        (∀n,5<=n->SeqStopsK Fence.wide n Tryz.prog g' #[.pointer (some ⟨Bm,Bo,none⟩)] (fun x:lz=>#[qQ x]) KeepsWalks (fun ss=>ss.Perm rs) (fun _=>True) rs.length w)->
        Calls Tryz.prog 151 #[.func (.func g') #[] #[.pointer (some ⟨Bm,Bo,none⟩)],.func (.func 68) #[] #[]] w (eF none S β h w (.ok (bg (fo ks)) h)):=by
       intro g' eg hseq;refine (Dn g' _ eg _ _ rs.length qr (fun ss hs=>hs.length_eq) w hg.1 hseq).mono ?_;rintro e w' ⟨v,ss,rfl,hS,hB,hres⟩;have hso:fo ks=fo (ss.map gZ):=by rw[<- hrs];exact re (hS.map gZ).symm
       rcases hres with⟨rfl,rfl⟩|⟨b,cap,y,rfl,h1,h2,h3,h4,h5⟩
       ·refine gR hw hh0 hB CY ?_;rw[hso];simp only[acq,fo,bg,VR,aaW]
        grind
       ·have hl2:(fo (ss.map gZ)).length=ss.length:=by rw[lR];simp
        refine Kh hw hh0 hB CY h3 h2 ?_
        grind [QV]
      have hg2:g=180\/g=180:=by
       have:=hb.1
       simp only[dF]at this;rcases acl (Nat.beq 180 g)with h1|h1
       ·simp_all
       ·grind
      rcases hg2 with rfl|rfl
      ·exact hgen 180 (enters_of Tryz.func180 BT rfl) fun n hn=>qX Fence.wide n trivial rfl WD Bm Bo rs w hBl hc
      ·exact hgen 180 (enters_of Tryz.func180 BT rfl) fun n hn=>qX Fence.wide n trivial rfl WD Bm Bo rs w hBl hc
     grind
 grind
end Go.Proofs.YtkkdcdofponfiaaGreat
namespace Go.Proofs.YtkkdcdofponfiaaGreat
open Go Go.Av
set_option maxRecDepth 100000
noncomputable def zB(n:Nat)(a:Ann):Cx:={ T:=T,call:=fun _ _=>io,own:=own,iso:=fun _=>false,nw:=fun _=>false,nt:=n,ann:=a }
def qm(n:Nat)(a:Ann):dQ Tryz.prog (zB n a).own (zB n a).call:=fun f args h S β w vs hr=>absurd rfl hr
def wn(n:Nat)(a:Ann):IsoCall (zB n a):=⟨fun f args h=>Bool.noConfusion h,fun f args h=>Bool.noConfusion h⟩
def ZB(e:AV)(es:List AV):cB (zB Tryz.f57.ntmps IK) (dT 0) Tryz.f57 none [.sl (e:: es)]=ah (appH T 34 true (.sl []) (.sl (e:: es))) fun v=>ah (bJ (some v)) af:=BT
def ZC:cB (zB Tryz.f57.ntmps IK) (dT 0) Tryz.f57 none [.hn]=ah (bJ (some (.sl []))) af:=BT
def ZD(l off:Nat):cB (zB Tryz.f57.ntmps IK) (dT 0) Tryz.f57 none [.hs l off 0 1 false]=ah (appH T 34 true (.sl []) (.hs l off 0 1 false)) fun v=>ah (bJ (some v)) af:=BT
def Xi(e:AV)(es:List AV):cB (zB Tryz.f144.ntmps Cc) (dT 0) Tryz.f144 none [.sl (e:: es)]=ah (bJ (cC T 28 (.sl []) (.sl (e:: es)))) fun v=>ah (bJ (some v)) af:=BT
def Xj:cB (zB Tryz.f144.ntmps Cc) (dT 0) Tryz.f144 none [.hn]=ah (bJ (some (.sl []))) af:=BT
def Xk(l off:Nat):cB (zB Tryz.f144.ntmps Cc) (dT 0) Tryz.f144 none [.hs l off 0 1 false]=ah (bJ (cC T 28 (.sl []) (.hs l off 0 1 false))) fun v=>ah (bJ (some v)) af:=BT
def Xl(l off:Nat):cC T 28 (.sl []) (.hs l off 0 1 false)=some (.sl []):=by rfl
def X4(call:FuncId->List AV->M AV)(args:List AV)(h:Hp)(S:ak)(β:List bG)(w:World)(vs:List Value)(hr:dZ T 34 call args h≠.fail)(hg:zA S β h w)(hw:Wf S w)(hh:dh S β w h)(hv:aZ S β args vs):
  Calls Tryz.prog 57 vs.toArray w (eF none S β h w (dZ T 34 call args h)):=by
 have key:∀es,args=[.sl es]->Calls Tryz.prog 57 vs.toArray w (eF none S β h w (dZ T 34 call args h)):=by
  rintro es rfl;exact (mW (cx:=zB Tryz.f57.ntmps IK) (E:=fun es h=>dZ T 34 call [.sl es] h) tok (qm _ _) (wn _ _) Tryz.func57 rfl (fun h=>by rfl) (fun e es h=>by rw[ZB];exact adv (Ch _) h) (fun h=>by rw[ZC];rfl) (fun l off h=>by rw[ZD];rfl) hr hg hw hh hv).1
 unfold dZ at hr;split at hr
 ·exact key _ rfl
 ·exact absurd rfl hr
def Up(call:FuncId->List AV->M AV)(args:List AV)(h:Hp)(S:ak)(β:List bG)(w:World)(vs:List Value)(hr:ir T 28 call args h≠.fail)(hg:zA S β h w)(hw:Wf S w)(hh:dh S β w h)(hv:aZ S β args vs):
  Calls Tryz.prog 144 vs.toArray w (eF none S β h w (ir T 28 call args h)):=by
 have key:∀es,args=[.sl es]->Calls Tryz.prog 144 vs.toArray w (eF none S β h w (ir T 28 call args h)):=by
  rintro es rfl;exact (mW (cx:=zB Tryz.f144.ntmps Cc) (E:=fun es h=>ir T 28 call [.sl es] h) tok (qm _ _) (wn _ _) Tryz.func144 rfl (fun h=>by rfl) (fun e es h=>by rw[Xi];exact adv (Ch _) h) (fun h=>by rw[Xj];rfl) (fun l off h=>by rw[Xk,Xl];rfl) hr hg hw hh hv).1
 unfold ir at hr;split at hr
 ·exact key _ rfl
 ·exact absurd rfl hr
def VL:Prop:=∀call,dQ Tryz.prog own call->∀(args:List AV)(h:Hp)(S:ak)(β:List bG)(w:World)(vs:List Value),Gv 56 .i64 (.agg [qi 0,qi 0,.sl [],.sl []]) call args h≠.fail->zA S β h w->Wf S w->dh S β w h->aZ S β args vs->
 Calls Tryz.prog 58 vs.toArray w (eF none S β h w (Gv 56 .i64 (.agg [qi 0,qi 0,.sl [],.sl []]) call args h))
end Go.Proofs.YtkkdcdofponfiaaGreat
namespace Go.Proofs.YtkkdcdofponfiaaGreat
open Go Go.Av
def G6(p q:Addr)(w:World):CallsD Tryz.prog 101 #[.pointer (some p),.pointer (some q)] .returning w fun e u' w'=>e= .returned (.tuple #[])/\u'= .returning/\w'=w:=by
 refine callsD_of_wpS Tryz.func101 rfl fun c₀ cs hu=>?_;apply wpS_seq;apply wpS_region;simp[wpOpsS,go_sem,recoverD,hu,Tryz.ntmps101,Exit.thenS];refine wpS_of_wp ?_
 go_wp2
 cases c₀;simp_all[bodyPostS,results]
def Mb(n:Int)(w:World):(Instr.typeAssert (.iface 56 (.int .i64 n)) 20 56 true).run Tryz.prog w= .ok (.tuple #[.int .i64 n,.bool true]) w:=BT
def SX(w:World):(Instr.build 47 #[]).run Tryz.prog w= .ok (.agg #[.int .i64 0,.int .i64 0,.slice none 0 0,.slice none 0 0]) w:=by
 obtain⟨v,h1,h2⟩:=Eg (P:=Tryz.prog) (T:=T) (w:=w) (S:=fun _ _=>none) (β:=[]) (told:=true) (t:=47) (parts:=[]) (r:=.agg [.int .i64 0,.int .i64 0,.hn,.hn]) (qs:=#[]) tok rfl rfl
 grind [VR,aZ]
set_option maxHeartbeats 4000000 in
set_option maxRecDepth 100000 in
def Kc(b c:Nat)(x0 x1 x2 x3 y0:Value)(n:Int)(w:World)(c0:w.cell? ⟨b,0,none⟩=some x0)(c1:w.cell? ⟨b,1,none⟩=some x1)(c2:w.cell? ⟨b,2,none⟩=some x2)(c3:w.cell? ⟨b,3,none⟩=some x3)(d0:w.cell? ⟨c,0,none⟩=some y0)(f0:w.frozen? ⟨b,0,none⟩=false)(f1:w.frozen? ⟨b,1,none⟩=false)(f2:w.frozen? ⟨b,2,none⟩=false)(f3:w.frozen? ⟨b,3,none⟩=false)(g0:w.frozen? ⟨c,0,none⟩=false)(hne:¬b=c)(hne':¬c=b):
  CallsD Tryz.prog 101 #[.pointer (some ⟨b,0,none⟩),.pointer (some ⟨c,0,none⟩)] (.panicking [{ v:=.iface 56 (.int .i64 n),recovered:=false }]) w fun e u' w'=>
   e= .returned (.tuple #[])/\u'= .panicking [{ v:=.iface 56 (.int .i64 n),recovered:=true }]/\w'=((((w.setCell ⟨b,0,none⟩ (.int .i64 0)).setCell ⟨b,1,none⟩ (.int .i64 0)).setCell ⟨b,2,none⟩ (.slice none 0 0)).setCell ⟨b,3,none⟩ (.slice none 0 0)).setCell ⟨c,0,none⟩ (.int .i64 n):=by
 refine callsD_of_wpS Tryz.func101 rfl fun c₀ cs hu=>?_;apply wpS_seq;apply wpS_region;simp[wpOpsS,go_sem,recoverD,hu,Tryz.ntmps101,Exit.thenS];refine wpS_of_wp ?_;have h1:=Mb n;have h2:=SX
 go_wp2
 simp_all[bodyPostS,results]
end Go.Proofs.YtkkdcdofponfiaaGreat
namespace Go.Proofs.YtkkdcdofponfiaaGreat
open Go Go.Av
set_option maxRecDepth 100000
def uK(w:World):World:=(w.alloc (Obj.cells #[Value.int IntKind.i64 0,Value.int IntKind.i64 0,Value.slice none 0 0,Value.slice none 0 0] 47)).alloc (Obj.cells #[Value.int IntKind.i64 0] 56)
def Iv(w w':World)(u0 u1 u2 u3 e:Value):World:=((((w'.setCell ⟨w.heap.size,0,none⟩ u0).setCell ⟨w.heap.size,1,none⟩ u1).setCell ⟨w.heap.size,2,none⟩ u2).setCell ⟨w.heap.size,3,none⟩ u3).setCell ⟨w.heap.size+1,0,none⟩ e
def aac(w:World)(R:Ending->World->Prop):Ending->World->Prop:=fun e w'=>
 w'.heap[w.heap.size]? = (uK w).heap[w.heap.size]? /\w'.heap[w.heap.size+1]? = (uK w).heap[w.heap.size+1]? /\
 ((∃u0 u1 u2 u3:Value,u0.oneCell'=true/\u1.oneCell'=true/\u2.oneCell'=true/\u3.oneCell'=true/\e= .returned (.agg #[u0,u1,u2,u3])/\R (.returned (.tuple #[.agg #[u0,u1,u2,u3],.int .i64 0])) (Iv w w' u0 u1 u2 u3 (.int .i64 0)))\/
  ∃n,e= .panicked [{ v:=.iface 56 (.int .i64 n),recovered:=false }]/\R (.returned (.tuple #[.agg #[.int .i64 0,.int .i64 0,.slice none 0 0,.slice none 0 0],.int .i64 n])) (Iv w w' (.int .i64 0) (.int .i64 0) (.slice none 0 0) (.slice none 0 0) (.int .i64 n)))
set_option maxHeartbeats 4000000 in
def OA(g:FuncId)(x y:Array Value)(w:World)(R:Ending->World->Prop)(hfn:(Tryz.prog.funcs[g]?).any (fun fn=>fn.body.isSome&&!(fn.name== "runtime.NumGoroutine"))=true)(hc:Calls Tryz.prog g (x++y) (uK w) (aac w R)):Calls Tryz.prog 58 #[.func (.func g) x y] w R:=by
 have hmf:∀(fn:Fn)(first cap:Array Value)(w:World),(Instr.makeFunc fn first cap).run Tryz.prog w= .ok (.func fn first cap) w:=fun _ _ _ _=>rfl
 go_enter_defers Tryz.func58,Tryz.ntmps58
 go_wp2
 rw[lE hfn,Oper.upon_enter];refine hc.mono fun e w' h=>?_;obtain⟨k0,k1,h⟩:=h;have r0:w'.heap[w.heap.size]? = some (.cells #[Value.int IntKind.i64 0,Value.int IntKind.i64 0,Value.slice none 0 0,Value.slice none 0 0] 47):=by rw[k0];exact (Go.Av.alloc_old _ _ AI).trans (heap_alloc_new w _)
 have r1:w'.heap[w.heap.size+1]? = some (.cells #[Value.int IntKind.i64 0] 56):=by rw[k1];have:=heap_alloc_new (w.alloc (Obj.cells #[Value.int IntKind.i64 0,Value.int IntKind.i64 0,Value.slice none 0 0,Value.slice none 0 0] 47)) (Obj.cells #[Value.int IntKind.i64 0] 56);rwa [World.size_alloc]at this
 have c0:w'.cell? ⟨w.heap.size,0,none⟩=some (.int .i64 0):=by simp[World.cell?,r0]
 have c1:w'.cell? ⟨w.heap.size,1,none⟩=some (.int .i64 0):=by simp[World.cell?,r0]
 have c2:w'.cell? ⟨w.heap.size,2,none⟩=some (.slice none 0 0):=by simp[World.cell?,r0]
 have c3:w'.cell? ⟨w.heap.size,3,none⟩=some (.slice none 0 0):=by simp[World.cell?,r0]
 have d0:w'.cell? ⟨w.heap.size+1,0,none⟩=some (.int .i64 0):=by simp[World.cell?,r1]
 have f0:w'.frozen? ⟨w.heap.size,0,none⟩=false:=by simp[World.frozen?,r0]
 have f1:w'.frozen? ⟨w.heap.size,1,none⟩=false:=by simp[World.frozen?,r0]
 have f2:w'.frozen? ⟨w.heap.size,2,none⟩=false:=by simp[World.frozen?,r0]
 have f3:w'.frozen? ⟨w.heap.size,3,none⟩=false:=by simp[World.frozen?,r0]
 have g0:w'.frozen? ⟨w.heap.size+1,0,none⟩=false:=by simp[World.frozen?,r1]
 clear k0 k1 r0 r1 hc hmf;rcases h with⟨u0,u1,u2,u3,o0,o1,o2,o3,rfl,hR⟩|⟨n,rfl,hR⟩
 ·simp only;rename_i K1 hK1 K hK;apply hK;clear hK;have hK1':=hK1;clear hK1;have s0:∀a m (w:World),(store a u0 m).run Tryz.prog w=stored Tryz.prog w a u0 m:=fun a m w=>run_store _ w a u0 m o0;have s1:∀a m (w:World),(store a u1 m).run Tryz.prog w=stored Tryz.prog w a u1 m:=fun a m w=>run_store _ w a u1 m o1;have s2:∀a m (w:World),(store a u2 m).run Tryz.prog w=stored Tryz.prog w a u2 m:=fun a m w=>run_store _ w a u2 m o2;have s3:∀a m (w:World),(store a u3 m).run Tryz.prog w=stored Tryz.prog w a u3 m:=fun a m w=>run_store _ w a u3 m o3
  go_wp2
  change Leaves _ _ _ _ _ _ _;refine leaves_cons (f:=101) (args:=#[.pointer (some ⟨w.heap.size,0,none⟩),.pointer (some ⟨w.heap.size+1,0,none⟩)]) AI (by simp[go_sem]) ?_;refine (G6 ⟨w.heap.size,0,none⟩ ⟨w.heap.size+1,0,none⟩ _).mono ?_;rintro e u' w'' ⟨rfl,rfl,rfl⟩;simp only[Leaves,settle];refine⟨_,?_,hR⟩;simp[results,Tryz.results58,go_sem,Iv,World.cell?_setCell_same,c0,c1,c2,c3,d0]
 ·change Leaves _ _ _ _ _ _ _;refine leaves_cons (f:=101) (args:=#[.pointer (some ⟨w.heap.size,0,none⟩),.pointer (some ⟨w.heap.size+1,0,none⟩)]) AI (by simp[go_sem]) ?_;refine (Kc w.heap.size (w.heap.size+1) _ _ _ _ _ n w' c0 c1 c2 c3 d0 f0 f1 f2 f3 g0 WD WD).mono ?_;rintro e u' w'' ⟨rfl,rfl,rfl⟩;simp only[Leaves,settle];refine⟨_,?_,hR⟩;simp[results,Tryz.results58,go_sem,Iv,World.cell?_setCell_same,c0,c1,c2,c3,d0]
def uL(w:World):(uK w).heap.size=w.heap.size+2:=by simp[uK]
def Oz(w:World)(b:Nat)(hb:b<w.heap.size):(uK w).heap[b]? = w.heap[b]?:=by
 grind [uK,Go.Av.alloc_old]
def Gx(w:World):Gro w (uK w):=(Gro.alloc w _ _).trans (Gro.alloc _ _ _)
def Gw(w w':World)(u0 u1 u2 u3 e:Value):Gro w' (Iv w w' u0 u1 u2 u3 e):=
 ((((Gro.setCell _ _ _).trans (Gro.setCell _ _ _)).trans (Gro.setCell _ _ _)).trans (Gro.setCell _ _ _)).trans (Gro.setCell _ _ _)
def BR(w w':World)(u0 u1 u2 u3 e:Value)(b:Nat)(hb:¬(w.heap.size<=b/\b<(uK w).heap.size)):(Iv w w' u0 u1 u2 u3 e).heap[b]? = w'.heap[b]?:=by
 rw[uL]at hb;unfold Iv;rw[jG Bk,jG Bk,jG Bk,jG Bk,jG Bk]
def Kb{call:FuncId->List AV->M AV}{f:AV}{xs:List AV}{h:Hp}(hr:bj call f xs h≠.fail):∃g a c,f= .fn (.func g) a c:=by
 unfold bj at hr;split at hr
 ·grind
 ·exact absurd rfl hr
theorem UK:VL:=by
 intro call hC args h S β w vs hr hg hw hh hv
 have key:∀f,args=[f]->Calls Tryz.prog 58 vs.toArray w (eF none S β h w (Gv 56 .i64 (.agg [.int .i64 0,.int .i64 0,.sl [],.sl []]) call args h)):=by
  rintro f rfl;have ht:Gv 56 .i64 (.agg [.int .i64 0,.int .i64 0,.sl [],.sl []]) call [f] h=Dz 56 .i64 (.agg [.int .i64 0,.int .i64 0,.sl [],.sl []]) (bj call f [] h):=rfl;rw[ht]at hr |-;clear ht;simp only[aZ]at hv;obtain⟨fv,_,rfl,hv,rfl⟩:=hv;have hne:bj call f [] h≠.fail:=fun e=>by rw[e]at hr;exact hr rfl
  obtain⟨g,a,c,rfl⟩:=Kb hne
  ·have hcv:bj call (.fn (.func g) a c) [] h=call g (a++[]++c) h:=rfl;rw[hcv]at hr hne |-;simp only[VR]at hv;obtain⟨x,y,rfl,hx,hy⟩:=hv;have hold:=Oz w;have hv2:aZ S β (a++[]++c) (x++y):=by simpa using hx.append hy
   obtain⟨hcall,hfn⟩:=hC g (a++[]++c) h S β (uK w) (x++y) hne ⟨hg.1.mono fun b hb=>hold b (Nat.lt_of_lt_of_le hb hg.1.lt),hg.2⟩ (hw.grow hold) (hh.grow hold) hv2;refine OA g x.toArray y.toArray w _ hfn ?_;have e:(x++y).toArray=x.toArray++y.toArray:=AI
   rw[<- e];refine hcall.mono fun en w' hp=>?_;have kk:∀S' β' h',Go.Av.Left (cK β h) S β (uK w) S' β' w' h'->w'.heap[w.heap.size]? = (uK w).heap[w.heap.size]? /\w'.heap[w.heap.size+1]? = (uK w).heap[w.heap.size+1]?:=fun S' β' h' L=>
    ⟨(L.keep _ (by rw[uL];omega) fun ho=>by have:=hh.low ho;omega).1,(L.keep _ (by rw[uL];omega) fun ho=>by have:=hh.low ho;omega).1⟩
   generalize call g (a++[]++c) h=r at hr hne hp |-;cases r with
   |fail=>grind
   | ok v h'=>
    obtain⟨S',β',u,rfl,hu,L,_⟩:=hp;refine⟨(kk _ _ _ L).1,(kk _ _ _ L).2,.inl ?_⟩;simp only[Dz]at hr |-;cases hok:cq 4 v with
    |false=>grind
    | true=>
     obtain⟨g1,g2,g3⟩:=m7 hok hu;have hcs:∃cs,v= .agg cs:=by
      simp only[cq,aaD]at hok;have h1:=hok.1;cases v<;>simp[df]at h1;exact⟨_,rfl⟩
     obtain⟨cs,rfl⟩:=hcs;simp only[VR]at hu;obtain⟨us,rfl,hus⟩:=hu;simp only[Value.cells]at g1 g3
     match us,g1 with
     |[u0,u1,u2,u3],_=>
      refine⟨u0,u1,u2,u3,g3 u0 AI,g3 u1 AI,g3 u2 AI,g3 u3 AI,rfl,S',β',_,rfl,?_,Be (Gx w) hold L (Gw ..) (fun b hb=>BR w w' _ _ _ _ _ b hb) hw hh,fun sz hsz=>by cases hsz⟩;simp only[VR,aZ];exact⟨[.agg #[u0,u1,u2,u3],.int .i64 0],rfl,_,_,rfl,⟨[u0,u1,u2,u3],rfl,hus⟩,_,_,rfl,rfl,rfl⟩
   | pan v h'=>
    obtain⟨S',β',u,rfl,hu,L⟩:=hp;refine⟨(kk _ _ _ L).1,(kk _ _ _ L).2,.inr ?_⟩;unfold Dz at hr |-;split at hr
    ·grind
    ·rename_i t' k' n h'' heq;cases heq;cases hb:(Nat.beq t' 56&&decide (k'=IntKind.i64))with
     |false=>grind
     |true=>
      simp only[aaD,aaL]at hb;obtain⟨hb1,rfl⟩:=hb
      have:=Nat.eq_of_beq_eq_true hb1
      subst this;simp only[VR]at hu;obtain⟨u',rfl,rfl⟩:=hu;refine⟨n,rfl,S',β',_,rfl,?_,Be (Gx w) hold L (Gw ..) (fun b hb=>BR w w' _ _ _ _ _ b hb) hw hh,fun sz hsz=>by cases hsz⟩;simp only[VR,aZ];refine⟨[.agg #[.int .i64 0,.int .i64 0,.slice none 0 0,.slice none 0 0],.int .i64 n],rfl,_,_,rfl,⟨[.int .i64 0,.int .i64 0,.slice none 0 0,.slice none 0 0],rfl,_,_,rfl,rfl,_,_,rfl,rfl,_,_,rfl,?_,_,_,rfl,?_,rfl⟩,_,_,rfl,rfl,rfl⟩
      ·exact⟨none,0,rfl,aaI _,fun _=>rfl,fun q hq=>by cases hq⟩
      ·exact⟨none,0,rfl,aaI _,fun _=>rfl,fun q hq=>by cases hq⟩
    grind
 rcases args with _|⟨f,_|⟨f2,r⟩⟩
 ·exact absurd rfl hr
 ·exact key _ rfl
 ·exact absurd rfl hr
end Go.Proofs.YtkkdcdofponfiaaGreat
namespace Go.Proofs.YtkkdcdofponfiaaGreat
open Go Go.Av Go.RowKit
set_option maxRecDepth 100000
def JK{S:ak}{β:List bG}{s:List UInt8}{r:List Value}{l:List AV}(hv:aZ S β (.str s:: l) r):∃x r',r= .string x:: r'/\x.data.toList=s/\aZ S β l r':=by
 simp only[aZ,VR]at hv
 grind
def Uo(call:FuncId->List AV->M AV)(args:List AV)(h:Hp)(S:ak)(β:List bG)(w:World)(vs:List Value)(hr:nM call args h≠.fail)(hg:zA S β h w)(hw:Wf S w)(hh:dh S β w h)(hv:aZ S β args vs):
  Calls Tryz.prog 119 vs.toArray w (eF none S β h w (nM call args h)):=by
 unfold nM at hr |-;split at hr
 ·rename_i s t;obtain⟨x,r,rfl,hx,hv⟩:=JK hv;obtain⟨y,r,rfl,hy,hv⟩:=JK hv;simp only[aZ]at hv;subst hv;cases hc:decide (s.length<4294967281)with
  |false=>rw[hc]at hr;exact absurd rfl hr
  |true=>
   simp only[aaF];have hlen:x.size=s.length:=by rw[<- hx,abt];rfl
   obtain⟨m,hm⟩:=hg.1.max;refine (Any.strings_Contains aaz x y m w qr hm).mono ?_;rintro e w' ⟨rfl,rfl⟩;exact gR hw hh (Below.refl _ _) CY (by simp only[VR];rw[hx,hy])
 ·exact absurd rfl hr
end Go.Proofs.YtkkdcdofponfiaaGreat
namespace Go.Proofs.YtkkdcdofponfiaaGreat
open Go Go.Av Go.RowKit Go.Shelf
attribute [local go_sem] Oper.semAt_some
abbrev eS:=ByteArray×Int×(Option Addr×Nat×Nat)
def eS.k(x:eS):Value:=.int .i64 x.2.1
def eS.f(x:eS):Value:=.slice x.2.2.1 x.2.2.2.1 x.2.2.2.2
def Lm(x:eS):Value:=.agg #[.string x.1,x.k,x.f]
def back(zs:List eS)(k:Nat):List (Nat×eS):=(List.range k).map fun j=>(zs.length-1-j,zs[zs.length-1-j]?.getD default)
def Au(zs:List eS)(k:Nat):back zs (k+1)=back zs k++[(zs.length-1-k,zs[zs.length-1-k]?.getD default)]:=by simp[back,List.range_succ]
def D9(zs:List eS)(k:Nat):(back zs k).length=k:=by simp[back]
def wE(W:World)(b off:Nat)(zs:List eS):Prop:=∀j,j<zs.length->W.cell? ⟨b,off+j*3,none⟩=some (.string (zs[j]?.getD default).1)/\W.cell? ⟨b,off+j*3+1,none⟩=some (zs[j]?.getD default).k/\W.cell? ⟨b,off+j*3+2,none⟩=some (zs[j]?.getD default).f
variable {zs:List eS}
def wE.below{n₀:Nat}{A B:World}(h:Below n₀ A B){b off:Nat}(hb:b<n₀)(c:wE A b off zs):wE B b off zs:=fun j hj=>by
 obtain⟨h1,h2,h3⟩:=c j hj;exact⟨(h.cell (p:=⟨b,_,none⟩) hb).trans h1,(h.cell (p:=⟨b,_,none⟩) hb).trans h2,(h.cell (p:=⟨b,_,none⟩) hb).trans h3⟩
set_option maxRecDepth 100000 in
set_option maxHeartbeats 2000000 in
def TW(F:Fence)(n:Nat)(h7:F.fn 168)(hro:F.round=none)(hn:1<=n)(l Bs n₀ b off cap:Nat)(zs:List eS)(hreach:zs.length<=1000000000)(hb:b<n₀)(hBn:Bs<n₀)(J Jx:List (Nat×eS)->World->Prop)
  (hY:∀pre x W,J pre W->pre.length<zs.length->YieldAt F (n-1) Tryz.prog l #[.int .i64 (x.1:Int),Lm x.2] W fun e W'=>
   (e= .returned (.bool true)/\J (pre++[x]) W'/\Below n₀ W W')\/(e= .returned (.bool false)/\Jx (pre++[x]) W'))
  (W:World) (hBs:W.cell? ⟨Bs,0,none⟩=some (.slice (some ⟨b,off,none⟩) zs.length cap)) (hc:wE W b off zs) (h0:J [] W):
  CallsIn F n Tryz.prog 168 #[.func (.yield l) #[] #[],.pointer (some ⟨Bs,0,none⟩)] W fun e W'=>(∃v,e= .returned v)/\
   ((∃ys,ys=back zs zs.length/\J ys W')\/(∃pre,(∃k,k<=zs.length/\pre=back zs k)/\Jx pre W')):=by
 refine callsIn_of_wp Tryz.func168 rfl h7 ?_ hro;simp only[Tryz.ntmps168,abp,aaX,aaW,Nat.reduceAdd,Nat.reduceSub,abw,abx,abJ,abC,aaU,aa2]
 gi_wp2
 gi_loopw [3] (fun i wr=>∃k:Nat,k<=zs.length/\i= .int .i64 ((zs.length:Int)-1-k)/\J (back zs k) wr/\Below n₀ W wr)
  (fun i _=>(intOf i+1).toNat)
 case atStart=>exact⟨0,aa1 _,AI,h0,Below.refl _ _⟩
 case round=>
  obtain⟨k,hk,rfl,hJs,hnx⟩:=hrel;have hbs:wr.cell? ⟨Bs,0,none⟩=some (.slice (some ⟨b,off,none⟩) zs.length cap):=(hnx.cell (p:=⟨Bs,0,none⟩) hBn).trans hBs;by_cases hlt:k<zs.length
  ·obtain⟨fn,tmps,assign,body,hy,hR⟩:=hY _ (zs.length-1-k,zs[zs.length-1-k]?.getD default) wr hJs (by rw[D9];exact hlt);dsimp only at hy;obtain⟨m,hm⟩:∃m:Nat,(zs.length:Int)-1-k=m:=⟨zs.length-1-k,WD⟩;have hm':zs.length-1-k=m:=WD
   rw[hm']at hy hR;rw[hm];obtain⟨c1,c2,c3⟩:=(hc.below hnx hb) m WD;generalize hz:zs[m]?.getD default=z at hy hR c1 c2 c3;obtain⟨z1,z2,z3,z4,z5⟩:=z;have hml:m<zs.length:=WD
   simp only[Lm,eS.k,eS.f]at hy c2 c3
   gi_wp2
   refine hR.mono ?_;rintro e W3 (⟨rfl,hJ3,hk3⟩|⟨rfl,hJx3⟩)
   ·gi_wp2
    go_roundw
    case rel=>exact⟨k+1,WD,by congr 1;omega,by rw[Au,hm',hz];exact hJ3,hnx.trans hk3⟩
    case measure=>simp[intOf]<;>omega
   ·gi_wp2
    refine bodyPost_ret (results_none rfl _ _ _) rfl ?_;exact⟨⟨_,rfl⟩,.inr ⟨_,⟨k+1,WD,by rw[Au,hm',hz]⟩,hJx3⟩⟩
  ·obtain rfl:k=zs.length:=WD
   gi_wp2
   go_end0
   exact⟨⟨_,rfl⟩,.inl ⟨_,rfl,hJs⟩⟩
set_option maxRecDepth 100000 in
set_option maxHeartbeats 1000000 in
def HJ(F:Fence)(n:Nat)(h7:F.fn 168)(hro:F.round=none)(l Bs:Nat)(p:Option Addr)(cap:Nat)(J:List (Nat×eS)->World->Prop)(W:World)(hBs:W.cell? ⟨Bs,0,none⟩=some (.slice p 0 cap))(h0:J [] W):
  CallsIn F n Tryz.prog 168 #[.func (.yield l) #[] #[],.pointer (some ⟨Bs,0,none⟩)] W fun e W'=>(∃v,e= .returned v)/\J [] W':=by
 refine callsIn_of_wp Tryz.func168 rfl h7 ?_ hro;simp only[Tryz.ntmps168,abp,aaX,aaW,Nat.reduceAdd,Nat.reduceSub,abw,abx,abJ,abC,aaU,aa2]
 gi_wp2
 gi_loopw [3] (fun i wr=>i= .int .i64 (-1)/\J [] wr) (fun _ _=>0)
 case atStart=>exact⟨rfl,h0⟩
 case round=>
  obtain⟨rfl,hJs⟩:=hrel
  gi_wp2
  go_end0
  exact⟨⟨_,rfl⟩,hJs⟩
set_option maxHeartbeats 1000000 in
def XS(F:Fence)(n:Nat)(h5:F.fn 122)(hro:F.round=none)(a:Option Addr)(len cap:Nat)(w:World):
  CallsIn F n Tryz.prog 122 #[.slice a len cap] w fun e w'=>e= .returned (.func (.func 168) #[] #[.pointer (some ⟨w.heap.size,0,none⟩)])/\w'=w.alloc (.cells #[.slice a len cap] 38):=by
 refine callsIn_of_wp Tryz.func122 rfl h5 ?_ hro;simp only[Tryz.ntmps122,abp,aaX,aaW,Nat.reduceAdd,Nat.reduceSub,abw,abx,abJ,abC,aaU,aa2]
 gi_wp2
 go_ret
 exact⟨rfl,rfl⟩
def su(n₀:Nat)(W:World)(sv:Value)(zs:List eS):Prop:=
 (zs=[]/\∃p cap,sv= .slice p 0 cap)\/∃b off cap,sv= .slice (some ⟨b,off,none⟩) zs.length cap/\b<n₀/\wE W b off zs
theorem su.below{n₀:Nat}{A B:World}(h:Below n₀ A B){sv:Value}:su n₀ A sv zs->su n₀ B sv zs
 |.inl e=>.inl e
 |.inr ⟨b,off,cap,e,hb,hc⟩=>.inr ⟨b,off,cap,e,hb,hc.below h hb⟩
variable {W:World}
theorem su.mono{n n':Nat}(h:n<=n'){sv:Value}:su n W sv zs->su n' W sv zs
 |.inl e=>.inl e
 |.inr ⟨b,off,cap,e,hb,hc⟩=>.inr ⟨b,off,cap,e,Nat.lt_of_lt_of_le hb h,hc⟩
def Np(F:Fence)(n:Nat)(h8:F.fn 168)(hro:F.round=none)(hn:1<=n)(Bs:Nat)(sv:Value)(zs:List eS)(hreach:zs.length<=1000000000)(w:World)(hBs:Bs<w.heap.size)(hc:w.cell? ⟨Bs,0,none⟩=some sv)(hI:su w.heap.size w sv zs):
  SeqStopsK F n Tryz.prog 168 #[.pointer (some ⟨Bs,0,none⟩)] (fun x:Nat×eS=>#[Value.int .i64 (x.1:Int),Lm x.2]) (Below w.heap.size) (fun ys=>ys=back zs zs.length)
   (fun pre=>∃k,k<=zs.length/\pre=back zs k) zs.length w:=fun l J Jx W hW _ _ hY h0=>by
 have hc':=(hW.cell (p:=⟨Bs,0,none⟩) hBs).trans hc;rcases hI.below hW with⟨rfl,p,cap,rfl⟩|⟨b,off,cap,rfl,hb,hcs⟩
 ·exact (HJ F n h8 hro l Bs p cap J W hc' h0).mono fun e W' ⟨he,hj⟩=>⟨he,.inl ⟨_,rfl,hj⟩⟩
 ·exact TW F n h8 hro hn l Bs w.heap.size b off cap zs hreach hb hBs J Jx hY W hc' hcs h0
def uq(zs:List eS)(x:ByteArray):Option eS:=zs.reverse.find? fun z=>decide (z.1=x)
def CO(zs:List eS)(x:ByteArray)(z0 z1:Value):Value:=match uq zs x with
 |some z=>.tuple #[.agg #[z.k,z.f],.bool true]
 |none=>.tuple #[.agg #[z0,z1],.bool false]
def Ea(zs:List eS){k:Nat}(hk:k<=zs.length):(back zs k).map (·.2)=zs.reverse.take k:=by
 apply aco
 ·simp[back,hk]
 ·intro i h1 h2;have hi:i<k:=by simpa [back]using h1
  have h3:zs.length-1-i<zs.length:=WD
  simp[back,h3]
def Fg{x:ByteArray}(h:∀p∈back zs zs.length,p.2.1≠x):uq zs x=none:=by
 unfold uq;rw[List.find?_eq_none];intro z hz;have hm:=Ea zs (aaI _);rw[abW AI]at hm;rw[<- hm]at hz;obtain⟨p,hp,rfl⟩:=abe.1 hz;simpa using h p hp
def Fh{x:ByteArray}{k:Nat}(hk:k<=zs.length){ini:List (Nat×eS)}{last:Nat×eS}(e1:back zs k=ini++[last])(e2:∀p∈ini,p.2.1≠x)(e3:last.2.1=x):uq zs x=some last.2:=by
 have hm:=Ea zs hk;rw[e1,ack]at hm;unfold uq;rw[<- List.take_append_drop k zs.reverse,<- hm,ab0,List.find?_append];have h1:(ini.map (·.2)).find? (fun z=>decide (z.1=x))=none:=by
  rw[List.find?_eq_none];intro z hz;obtain⟨p,hp,rfl⟩:=abe.1 hz;simpa using e2 p hp
 rw[h1];simp[e3]
def dO(W:World)(B:Nat)(t:TypeId)(cs:Array Value):Prop:=W.heap[B]? = some (.cells cs t (0,0))
variable {cs:Array Value}{B:Nat}{t:TypeId}
def dO.lt(h:dO W B t cs):B<W.heap.size:=(aaQ.1 h).1
def dO.cell(h:dO W B t cs)(o:Nat):W.cell? ⟨B,o,none⟩=cs[o]?:=by simp[World.cell?,show W.heap[B]? = _ from h]
def dO.frozen(h:dO W B t cs)(o:Nat):W.frozen? ⟨B,o,none⟩=false:=by simp[World.frozen?,show W.heap[B]? = _ from h]
def dO.new(W:World)(t:TypeId)(cs:Array Value):dO (W.alloc (.cells cs t)) W.heap.size t cs:=World.alloc_heap_new W _
def dO.kept{W':World}{row:Option Nat}(h:dO W B t cs)(hg:W.grownBy W' row)(hne:some B≠row):dO W' B t cs:=(hg.block B h.lt hne).trans h
def dO.alloc(h:dO W B t cs)(o:Obj):dO (W.alloc o) B t cs:=h.kept (World.grownBy_alloc W o none) AI
def dO.put(h:dO W B t cs){l:Nat}{o:Obj}(o':Obj)(hl:W.heap[l]? = some o)(ho:o.isCells=false):dO (W.putObj l o') B t cs:=
 h.kept (grownBy_putObj' W l o') (fun e=>by cases e;rw[show W.heap[B]? = _ from h]at hl;cases hl;cases ho)
def zO(W:World)(b o:Nat)(v:Value):W.grownBy (W.setCell ⟨b,o,none⟩ v) (some b):=
 ⟨rfl,rfl,rfl,(KeepsWalks.setCell W _ v).size,fun k _ hk=>Below.heap_setCell _ _ _ k (fun e=>hk (by rw[e]))⟩
def dO.other{B' o:Nat}(h:dO W B t cs)(hne:B≠B')(u:Value):dO (W.setCell ⟨B',o,none⟩ u) B t cs:=h.kept (zO W B' o u) (fun e=>hne (by cases e;rfl))
def dO.set(h:dO W B t cs)(o:Nat)(v:Value):dO (W.setCell ⟨B,o,none⟩ v) B t (cs.setIfInBounds o v):=by
 obtain⟨hlt,hk⟩:=aaQ.1 h;show (W.heap.modify B _)[B]? = _;rw[abd (by rw[Array.size_modify];exact hlt),Array.getElem_modify_self,hk];rfl
def Mh{x y:ByteArray}(h:(x.toList== y.toList)=true):x=y:=by
 have:=aa9.1 h
 rw[ByteArray.toList_eq,ByteArray.toList_eq]at this;exact ByteArray.ext (Array.ext' this)
def Mi{x y:ByteArray}(h:(x.toList== y.toList)=false):x≠y:=by
 rintro rfl;simp at h
def kl{β:Type}(B:Nat)(t:TypeId)(f:β->Array Value):Own (fun s W=>dO W B t (f s)):=fun s X Y row hs hg hrow=>
 hs.kept hg (fun e'=>by obtain⟨o,ho,hc⟩:=hrow B e'.symm;rw[show X.heap[B]? = _ from hs]at ho;cases ho;cases hc)
set_option maxRecDepth 100000 in
set_option maxHeartbeats 4000000 in
def PW(F:Fence)(n:Nat)(h3:F.fn 78)(h5:F.fn 122)(h7:F.fn 168)(hro:F.round=none)(hn:3<=n)(a:Option Addr)(len cap:Nat)(x:ByteArray)(zs:List eS)(hreach:zs.length<=1000000000)(w:World)(hI:su w.heap.size w (.slice a len cap) zs):
  CallsIn F n Tryz.prog 78 #[.slice a len cap,.string x] w fun e W'=>e= .returned (CO zs x (.int .i64 0) (.slice none 0 0))/\Below w.heap.size w W':=by
 have h1:1<=n:=WD
 refine callsIn_of_wp_marks Tryz.func78 rfl h3 ?_ hro;simp only[Tryz.ntmps78,abp,aaX,aaW,Nat.reduceAdd,Nat.reduceSub,abw,abx,abJ,abC,aaU,aa2]
 gi_wp2_with (gi_at_call 122;refine (XS F (n-1) h5 hro _ _ _ _).mono ?_;rintro e w' ⟨rfl,rfl⟩)
 have b0:=(((dO.new w 9 #[.string x]).alloc (.cells #[.int .i64 0,.slice none 0 0] 49)).alloc (.cells #[.bool false] 4)).alloc (.cells #[.slice a len cap] 38);have b1:=((dO.new (w.alloc (.cells #[.string x] 9)) 49 #[.int .i64 0,.slice none 0 0]).alloc (.cells #[.bool false] 4)).alloc (.cells #[.slice a len cap] 38);have b2:=(dO.new ((w.alloc (.cells #[.string x] 9)).alloc (.cells #[.int .i64 0,.slice none 0 0] 49)) 4 #[.bool false]).alloc (.cells #[.slice a len cap] 38);have b3:=dO.new (((w.alloc (.cells #[.string x] 9)).alloc (.cells #[.int .i64 0,.slice none 0 0] 49)).alloc (.cells #[.bool false] 4)) 38 #[.slice a len cap];simp only[World.size_alloc]at b1 b2 b3;have hB0:Below w.heap.size w ((((w.alloc (.cells #[.string x] 9)).alloc (.cells #[.int .i64 0,.slice none 0 0] 49)).alloc (.cells #[.bool false] 4)).alloc (.cells #[.slice a len cap] 38)):=
  ((((Below.refl _ w).alloc (aaI _) _).alloc AI _).alloc Bk _).alloc Bk _
 have hsz:((((w.alloc (.cells #[.string x] 9)).alloc (.cells #[.int .i64 0,.slice none 0 0] 49)).alloc (.cells #[.bool false] 4)).alloc (.cells #[.slice a len cap] 38)).heap.size=w.heap.size+4:=AI
 obtain⟨W0,hW0⟩:∃W0,((((w.alloc (.cells #[.string x] 9)).alloc (.cells #[.int .i64 0,.slice none 0 0] 49)).alloc (.cells #[.bool false] 4)).alloc (.cells #[.slice a len cap] 38))=W0:=⟨_,rfl⟩;rw[hW0]at b0 b1 b2 b3 hB0 hsz |-;clear hW0;refine wpIn_rangeFunc_ownH hro h1 (gf:=168) (lb:=#[.pointer (some ⟨w.heap.size+1+1+1,0,none⟩)]) rfl h7 (enters_of Tryz.func168 BT rfl)
  (Np F (n-1) h7 hro WD (w.heap.size+1+1+1) _ zs hreach W0 WD (b3.cell 0) ((hI.below hB0).mono WD)) belowK_t (belowK_b (aaI _)) (Below.refl _ _) (fun _=>rfl)
  (fun pre W=>(∀p∈pre,p.2.1≠x)/\(dO W w.heap.size 9 #[.string x]/\dO W (w.heap.size+1) 49 #[.int .i64 0,.slice none 0 0]/\dO W (w.heap.size+1+1) 4 #[.bool false]/\dO W (w.heap.size+1+1+1) 38 #[.slice a len cap])/\Below w.heap.size w W)
  (fun c pre W=>(c= .ret/\∃ini last,pre=ini++[last]/\(∀p∈ini,p.2.1≠x)/\last.2.1=x/\dO W (w.heap.size+1) 49 #[last.2.k,last.2.f]/\dO W (w.heap.size+1+1) 4 #[.bool true])/\Below w.heap.size w W)
  ?hI ?hIx ⟨fun _ h=>(by cases h),⟨b0,b1,b2,b3⟩,hB0⟩
  (fun y a' W=>∃Bx,dO W Bx 96 #[.string y.2.1,y.2.k,y.2.f]/\a'= { tmps:=#[.slice a len cap,.string x,undef,.pointer (some ⟨w.heap.size,0,none⟩),.pointer (some ⟨w.heap.size+1,0,none⟩),.pointer (some ⟨w.heap.size+1+1,0,none⟩),undef,.pointer (some ⟨Bx,0,none⟩),.slice a len cap,.func (.func 168) #[] #[.pointer (some ⟨w.heap.size+1+1+1,0,none⟩)],.int .i64 (y.1:Int),Lm y.2,undef,undef,undef,undef,undef,undef,undef],defers:=[] })
  (fun y a' _ X Y row hs hg hr=>by obtain⟨Bx,h2,h3⟩:=hs;exact⟨Bx,kl Bx 96 (fun(_:Unit)=>#[Value.string y.2.1,y.2.k,y.2.f]) () X Y row h2 hg (fun r e=>(hr r e).2),h3⟩)
  ?assign ?body ?done ?stop
 case hI=>exact OwnFrom.and (ownFrom_pure _ _) (OwnFrom.and (OwnFrom.and (Own.from (kl _ _ _) _) (OwnFrom.and (Own.from (kl _ _ _) _) (OwnFrom.and (Own.from (kl _ _ _) _) (Own.from (kl _ _ _) _)))) (ownFrom_below (aaI _) WD))
 case hIx=>
  intro c;refine OwnFrom.and (Own.from (fun s A B row hs hg hr=>?_) _) (ownFrom_below (aaI _) WD);obtain⟨hc,ini,last,e1,e2,e3,e4,e5⟩:=hs;exact⟨hc,ini,last,e1,e2,e3,kl _ _ (fun(_:Unit)=>#[last.2.k,last.2.f]) () A B row e4 hg hr,kl _ _ (fun(_:Unit)=>#[Value.bool true]) () A B row e5 hg hr⟩
 case assign=>
  rintro l pre y W K ⟨hp,⟨r0,r1,r2,r3⟩,hB⟩ hK;obtain⟨yi,y1,y2,y3,y4,y5⟩:=y;simp only[Lm,eS.k,eS.f]at hK |-
  gi_wp2
  exact hK _ _ ((KeepsOthers.alloc _ _).from _) ((Below.refl _ W).alloc (by have:=r3.lt;omega) _) ⟨hp,⟨r0.alloc _,r1.alloc _,r2.alloc _,r3.alloc _⟩,hB.alloc hB.size _⟩ ⟨W.heap.size,dO.new W _ _,rfl⟩
 case body=>
  rintro l pre y a' W hl ⟨r,hr⟩ ⟨hp,⟨r0,r1,r2,r3⟩,hB⟩ ⟨Bx,rx,rfl⟩ hlt;obtain⟨yi,y1,y2,y3,y4,y5⟩:=y;simp only[Lm,eS.k,eS.f]at rx |-;have c0:=r0.cell 0;have zB:=rx.cell 0;have cx1:=rx.cell 1;have cx2:=rx.cell 2;have f10:=r1.frozen 0;have f11:=r1.frozen 1;have f20:=r2.frozen 0;have c10:=r1.cell 0;have c11:=r1.cell 1;have c20:=r2.cell 0;simp at c0 zB cx1 cx2 c10 c11 c20
  gi_wp2
  ·have hx:y1=x:=Mh (by assumption);have r1':=((r1.set 0 (.int .i64 y2)).set 1 (.slice y3 y4 y5)).other (B':=w.heap.size+1+1) (o:=0) WD (.bool true);have r2':=((r2.other (B':=w.heap.size+1) (o:=0) WD (.int .i64 y2)).other (B':=w.heap.size+1) (o:=1) WD (.slice y3 y4 y5)).set 0 (.bool true);exact⟨(((KeepsOthers.setCell _ _ _).trans (KeepsOthers.setCell _ _ _)).trans (KeepsOthers.setCell _ _ _)).from _,⟨rfl,pre,(yi,y1,y2,y3,y4,y5),rfl,hp,hx,r1',r2'⟩,
    ((hB.setCell (p:=⟨w.heap.size+1,0,none⟩) AI _).setCell (p:=⟨w.heap.size+1,1,none⟩) AI _).setCell (p:=⟨w.heap.size+1+1,0,none⟩) Bk _⟩
  ·have hx:y1≠x:=Mi (by assumption);exact⟨KeepsFrom.refl _ _,Below.refl _ _,fun p hp'=>(aba.1 hp').elim (hp p) (fun e=>by simp at e;subst e;exact hx),⟨r0,r1,r2,r3⟩,hB⟩
 case done=>
  rintro D ys W hD rfl ⟨hne,⟨r0,r1,r2,r3⟩,hB⟩ hK;have f10:=r1.frozen 0;have f11:=r1.frozen 1;have f20:=r2.frozen 0;have c10:=r1.cell 0;have c11:=r1.cell 1;have c20:=r2.cell 0;simp at c10 c11 c20
  gi_wp2
  have r1':=((r1.set 0 (.int .i64 0)).set 1 (.slice none 0 0)).other (B':=w.heap.size+1+1) (o:=0) WD (.bool false);have r2':=((r2.other (B':=w.heap.size+1) (o:=0) WD (.int .i64 0)).other (B':=w.heap.size+1) (o:=1) WD (.slice none 0 0)).set 0 (.bool false);have hB':=((hB.setCell (p:=⟨w.heap.size+1,0,none⟩) AI (.int .i64 0)).setCell (p:=⟨w.heap.size+1,1,none⟩) AI (.slice none 0 0)).setCell (p:=⟨w.heap.size+1+1,0,none⟩) Bk (.bool false);have hK':=(((KeepsOthers.setCell W ⟨w.heap.size+1,0,none⟩ (.int .i64 0)).trans (KeepsOthers.setCell _ ⟨w.heap.size+1,1,none⟩ (.slice none 0 0))).trans (KeepsOthers.setCell _ ⟨w.heap.size+1+1,0,none⟩ (.bool false))).same D _ hK rfl;refine⟨AI,.inl ⟨_,_,rfl,run_takeDeferred hK',?_⟩⟩;have q10:=(r1'.put (.deferred none) hK' rfl).cell 0;have q11:=(r1'.put (.deferred none) hK' rfl).cell 1;have q20:=(r2'.put (.deferred none) hK' rfl).cell 0;simp at q10 q11 q20;refine⟨.tuple #[.agg #[.int .i64 0,.slice none 0 0],.bool false],?_,?_,hB'.trans (belowK_b (w:=w) (aaI _) _ D _ _ WD hK' rfl rfl)⟩
  rotate_left
  ·unfold CO;rw[Fg hne]
  ·simp[results,Tryz.f78,go_sem,q10,q11,q20]
 case stop=>
  rintro D c pre W hD ⟨k,hk,rfl⟩ ⟨⟨rfl,ini,last,e1,e2,e3,r1,r2⟩,hB⟩ hK
  gi_wp2
  refine⟨AI,.inl ⟨_,_,rfl,run_takeDeferred hK,?_⟩⟩;have q10:=(r1.put (.deferred none) hK rfl).cell 0;have q11:=(r1.put (.deferred none) hK rfl).cell 1;have q20:=(r2.put (.deferred none) hK rfl).cell 0;simp at q10 q11 q20;refine⟨.tuple #[.agg #[last.2.k,last.2.f],.bool true],?_,?_,hB.trans (belowK_b (w:=w) (aaI _) W D _ _ WD hK rfl rfl)⟩
  rotate_left
  ·unfold CO;rw[Fh hk e1 e2 e3]
  ·simp[results,Tryz.f78,go_sem,q10,q11,q20]
end Go.Proofs.YtkkdcdofponfiaaGreat
namespace Go.Proofs.YtkkdcdofponfiaaGreat
open Go Go.Av Go.RowKit
set_option maxRecDepth 100000
def Vq(S:ak)(β:List bG)(y:List UInt8×Int×List AV)(z:eS):Prop:=z.1.data.toList=y.1/\z.2.1=y.2.1/\VR S β (.sl y.2.2) z.f
def pw(S:ak)(β:List bG):List (List UInt8×Int×List AV)->List eS->Prop
 |[],zs=>zs=[]
 |y:: l,zs=>∃z r,zs=z:: r/\Vq S β y z/\pw S β l r
theorem pw.length{S:ak}{β:List bG}:{l:List (List UInt8×Int×List AV)} ->{zs:List eS} ->pw S β l zs->zs.length=l.length
 |[],_,h=>by simp only[pw]at h;simp[h]
 |y:: l,zs,h=>by
  simp only[pw]at h;obtain⟨z,r,rfl,_,h⟩:=h;simp[pw.length h]
def Kz{e:AV}{y:List UInt8×Int×List AV}(h:EL e=some y):e= .agg [.str y.1,qi y.2.1,.sl y.2.2]:=by
 unfold EL at h
 grind
theorem Xm{S:ak}{β:List bG}{b sz:Nat}:(es:List AV)->(off:Nat)->(l:List (List UInt8×Int×List AV))->ca S β es b off sz->j9 es=some l->
  ∃zs:List eS,pw S β l zs/\∀j,j<zs.length->S b (off+j*3)=some (.string (zs[j]?.getD default).1)/\S b (off+j*3+1)=some (zs[j]?.getD default).k/\S b (off+j*3+2)=some (zs[j]?.getD default).f
 |[],off,l,_,h=>by
  simp only[j9,aaB]at h;subst h;exact⟨[],rfl,fun j hj=>by simp at hj⟩
 | e:: es,off,l,he,h=>by
  simp only[j9]at h;cases h1:EL e with
  |none=>grind
  | some y=>
   cases h2:j9 es with
   |none=>grind
   |some l'=>
    rw[h1,h2]at h;simp only[aaB]at h;subst h;simp only[ca]at he;obtain⟨⟨v,hv,hs,hc⟩,he⟩:=he
    have:=Kz h1
    subst this;simp only[VR,aZ]at hv;obtain⟨vs,rfl,_,_,rfl,⟨x,rfl,hx⟩,_,_,rfl,rfl,v3,_,rfl,hv3,rfl⟩:=hv;obtain⟨p,cap,hp,hq1,hq2,hq3⟩:=hv3;subst hp;have hsz:sz=3:=by rw[<- hs];rfl
    subst hsz;obtain⟨zs,hR,hZ⟩:=Xm es (off+3) l' he h2;have c0:=hc 0 _ rfl;have c1:=hc 1 _ rfl;have c2:=hc 2 _ rfl;refine⟨(x,y.2.1,(p,y.2.2.length,cap)):: zs,⟨_,_,rfl,⟨hx,rfl,by simp only[eS.f,VR];grind⟩,hR⟩,fun j hj=>?_⟩
    grind [eS.k,eS.f]
theorem sY{S:ak}{β:List bG}{x:ByteArray}{name:List UInt8}(hx:x.data.toList=name):{l:List (List UInt8×Int×List AV)} ->{zs:List eS} ->pw S β l zs->
  (bV (fun z=>z.1== name) l=none/\bV (fun z:eS=>decide (z.1=x)) zs=none)\/∃y z,bV (fun z=>z.1== name) l=some y/\bV (fun z:eS=>decide (z.1=x)) zs=some z/\Vq S β y z
 |[],zs,h=>by simp only[pw]at h;subst h;exact .inl ⟨rfl,rfl⟩
 | y:: l,zs,h=>by
  simp only[pw]at h;obtain⟨z,r,rfl,hz,h⟩:=h;rcases sY hx h with⟨h1,h2⟩|⟨y',z',h1,h2,h3⟩
  ·have he:(y.1== name)=decide (z.1=x):=by
    rw[<- hz.1,<- hx];by_cases h:z.1=x
    ·subst h;simp
    ·grind [ByteArray.ext,Array.ext']
   simp only[bV,h1,h2,he]
   grind
  ·simp only[bV,h1,h2]
   grind
def X7(call:FuncId->List AV->M AV)(args:List AV)(h:Hp)(S:ak)(β:List bG)(w:World)(vs:List Value)(hr:qv call args h≠.fail)(hg:zA S β h w)(hw:Wf S w)(hh:dh S β w h)(hv:aZ S β args vs):
  Calls Tryz.prog 78 vs.toArray w (eF none S β h w (qv call args h)):=by
 unfold qv at hr |-;split at hr
 ·rename_i es name;cases hl:j9 es with
  |none=>rw[hl]at hr;exact absurd rfl hr
  | some l=>
   rw[hl]at hr;simp only at hr |-;cases hc:decide (l.length<=1000000000)with
   |false=>rw[hc]at hr;exact absurd rfl hr
   | true=>
    simp only[aaF];simp only[aZ,VR]at hv;obtain⟨_,_,rfl,⟨a,cap,rfl,hle,hnil,hq⟩,_,_,rfl,⟨x,rfl,hx⟩,rfl⟩:=hv;have hlen:∀(es:List AV)(l:List (List UInt8×Int×List AV)),j9 es=some l->l.length=es.length:=by
     intro es
     induction es with
     |nil=>grind [j9]
     |cons e es ih=>
      grind [j9]
    have hll:=hlen es l hl;have hz:∃zs:List eS,pw S β l zs/\su w.heap.size w (.slice a zs.length cap) zs:=by
     cases es with
     |nil=>
      simp only[j9,aaB]at hl;subst hl;exact⟨[],rfl,.inl ⟨rfl,a,cap,rfl⟩⟩
     | cons e es=>
      cases a with
      |none=>grind
      | some q=>
       obtain⟨hs,sz,hE⟩:=hq q rfl;have hcap:0<cap:=by simp at hle;omega
       obtain⟨b,off,sp⟩:=q;have hs':sp=none:=hs hcap;subst hs';obtain⟨zs,hR,hZ⟩:=Xm (e:: es) off l hE hl;refine⟨zs,hR,.inr ⟨b,off,cap,rfl,?_,fun j hj=>?_⟩⟩
       ·have h0:=(hZ 0 (by rw[hR.length,hll];simp)).1;exact hw.lt h0
       ·obtain⟨h1,h2,h3⟩:=hZ j hj;exact⟨hw _ _ _ h1,hw _ _ _ h2,hw _ _ _ h3⟩
    obtain⟨zs,hR,hF⟩:=hz;have hzl:=hR.length;rw[show es.length=zs.length by omega];refine (callsIn_wide (n:=3)).1 ((PW Fence.wide 3 trivial trivial trivial rfl WD a zs.length cap x zs qr w hF).mono ?_);rintro e w' ⟨rfl,hb⟩;refine gR hw hh hb CY ?_;unfold CO HM uq;rw[<- zR];rcases sY hx hR with⟨h1,h2⟩|⟨y,z,h1,h2,h3⟩
    ·rw[h1,h2];simp only[VR,aZ];exact⟨_,rfl,_,_,rfl,⟨_,rfl,_,_,rfl,rfl,_,_,rfl,⟨none,0,rfl,aaI _,fun _=>rfl,fun q hq=>by cases hq⟩,rfl⟩,_,_,rfl,rfl,rfl⟩
    ·rw[h1,h2];obtain⟨_,h4,h5⟩:=h3;simp only[VR,aZ];exact⟨_,rfl,_,_,rfl,⟨_,rfl,_,_,rfl,by rw[<- h4];rfl,_,_,rfl,h5,rfl⟩,_,_,rfl,rfl,rfl⟩
 ·exact absurd rfl hr
end Go.Proofs.YtkkdcdofponfiaaGreat
namespace Go.Proofs.YtkkdcdofponfiaaGreat.D
open Go Go.Av Go.Av.Ap
set_option maxRecDepth 100000
noncomputable def pg:Pg:={ T:=T,funcs:=xD se,own:=own,other:=fun _=>none }
def hOther:eY pg:=fun f E h=>by cases h
def E88(call:FuncId->List AV->M AV)(fx:aX AV)(a0:AV):cB (pg.cx call Tryz.f88.ntmps L1) fx Tryz.f88 (own 88) [a0]=S88 call fx a0:=BT
def C88(a0:AV):callW pg 88 [a0]=aI (S88 (callW pg) ae (cl ao a0)):=(hP hOther rfl rfl rfl _).trans (aaY aI (E88 _ _ (cl ao a0)))
def E44(call:FuncId->List AV->M AV)(fx:aX AV)(a0 a1:AV):cB (pg.cx call Tryz.f44.ntmps L0) fx Tryz.f44 (own 44) [a0,a1]=S44 call fx a0 a1:=BT
def C44(a0 a1:AV):callW pg 44 [a0,a1]=aI (S44 (callW pg) ae (cl ao a0) (cl ao a1)):=(hP hOther rfl rfl rfl _).trans (aaY aI (E44 _ _ (cl ao a0) (cl ao a1)))
def E43(call:FuncId->List AV->M AV)(fx:aX AV)(a0 a1:AV):cB (pg.cx call Tryz.f43.ntmps Q3) fx Tryz.f43 (own 43) [a0,a1]=S43 call fx a0 a1:=BT
def C43(a0 a1:AV):callW pg 43 [a0,a1]=aI (S43 (callW pg) ae (cl ao a0) (cl ao a1)):=(hP hOther rfl rfl rfl _).trans (aaY aI (E43 _ _ (cl ao a0) (cl ao a1)))
@[simp] theorem JJ(t:Nat)(a b:az):dC T .gtr t (.str a) (.str b)=some (.bool !(aK a b||a== b)):=rfl
theorem t88(s:az):callW pg 88 [.str s]=af (.bool false):=by
 rw[C88];have e:dC T .neq 9 (.str s) (.str s)=some (.bool !(s== s)):=rfl;simp[S88,e]
def t44(a b:az):callW pg 44 [.str a,.str b]=af (.int .i64 (ub a b)):=by
 rw[C44];unfold ub;cases h1:aK a b with
 |true=>simp[S44,t88,h1]
 |false=>
  by_cases h2:a=b
  all_goals simp_all[S44,t88,iK]
def t43(a b:az)(x1 x2 x3 x4 y1 y2 y3 y4:AV):callW pg 43 [.agg [.str a,x1,x2,x3,x4],.agg [.str b,y1,y2,y3,y4]]=af (.int .i64 (ub a b)):=by
 rw[C43];have f0:∀cs,aU T 121 (.ip cs) 0=some (.ip (cs.drop 0)):=fun cs=>rfl;have l0:∀(s:az)(cs:List AV),aO T 9 (.ip (.str s:: cs))=some (.str s):=fun s cs=>rfl;simp_all[S43,cl,ek,t44]
def good:@GoodPg ⟨True⟩ Tryz.prog pg:=by
 letI:Dr:=⟨True⟩
 exact⟨tok,xU,(fun f E h=>by cases h),(fun f h=>by cases h)⟩
end Go.Proofs.YtkkdcdofponfiaaGreat.D
namespace Go.Proofs.YtkkdcdofponfiaaGreat
open Go Go.Av Go.Av.Ap Go.RowKit Go.Sort
set_option maxRecDepth 1000000
def Z9(keys:List az)(n:Nat):SWO (ltOf (OO keys n)):=by
 have h:∀i j,ltOf (OO keys n) i j=aK keys[i % n]! keys[j % n]!:=fun i j=>by
  unfold ltOf OO ub
  grind
 refine⟨fun x=>?_,fun x y z=>?_,fun x y z=>?_⟩
 ·rw[h,fV]
 ·grind [fF]
 ·rw[h,h,h];intro h1 h2;cases h3:aK keys[x % n]! keys[z % n]! with
  |false=>rfl
  |true=>
   grind [fF,iK]
def KH{ev:Nat->List Value}{k:Nat}{w:World}(hg:GOKw w){blk off n:Nat}{d:Array Nat}{os:Array Obj}(hb:gN<=blk):GOKw (sortWorldK ev k w blk off n d os):=
 hg.mono fun b hlt=>mF ev k off n d os (Nat.lt_of_lt_of_le hlt hg.lt) WD
def MD:∀args w,(callFunc 43 args).run Tryz.prog w= .ok (.enter 43 args) w:=enters_of Tryz.func43 BT rfl
def Xg(a b:az)(u v:List Value)(hu:∃(x:ByteArray)(r:List Value),u= .string x:: r/\x.data.toList=a)(hv:∃(x:ByteArray)(r:List Value),v= .string x:: r/\x.data.toList=b)(lu:u.length=5)(lv:v.length=5)(W:World)(hg:GOKw W):
  Calls Tryz.prog 43 #[.agg u.toArray,.agg v.toArray] W fun e w'=>e= .returned (.int .i64 (ub a b))/\∃q os',w'=grow (W.drewN q) os':=by
 letI:Dr:=⟨True⟩
 have hs:∀(s:az)(u:List Value),(∃(x:ByteArray)(r:List Value),u= .string x:: r/\x.data.toList=s)->u.length=5->VR (mJ W) [] (.agg [.str s,.any,.any,.any,.any]) (.agg u.toArray):=by
  rintro s u ⟨x,r,rfl,hx⟩ hl;obtain⟨r1,r2,r3,r4,rfl⟩:∃r1 r2 r3 r4,r=[r1,r2,r3,r4]:=by
   match r,hl with
   |[r1,r2,r3,r4],_=>grind
  simp only[VR];refine⟨_,rfl,?_⟩;simp only[aZ,VR];exact⟨_,_,rfl,⟨x,rfl,hx⟩,_,_,rfl,trivial,_,_,rfl,trivial,_,_,rfl,trivial,_,_,rfl,trivial,rfl⟩
 have hv2:aZ (mJ W) [] [.agg [.str a,.any,.any,.any,.any],.agg [.str b,.any,.any,.any,.any]] [.agg u.toArray,.agg v.toArray]:=by
  simp only[aZ];exact⟨_,_,rfl,hs a u hu lu,_,_,rfl,hs b v hv lv,rfl⟩
 have h:=(mS D.good D.hOther 43 [.agg [.str a,.any,.any,.any,.any],.agg [.str b,.any,.any,.any,.any]] [] (mJ W) [] W _ (by rw[D.t43];simp[af]) ⟨hg,fun b _ ho=>by obtain⟨l,_,_,h1,_⟩:=ho;simp at h1,Dy hg⟩ (fun _ _ _ h=>h) ⟨rfl,fun _=>.no,fun l cs hl=>by simp at hl⟩ hv2).1;rw[D.t43]at h;refine h.mono fun e w' hp=>?_;obtain⟨S',β',v,rfl,hv,L,_⟩:=hp;simp only[VR]at hv;subst hv;exact⟨rfl,L.grew trivial⟩
def RN:∀w,(isAgg 121).run Tryz.prog w= .ok true w:=fun w=>BT
def QI:∀w,(Go.sizeOf 121).run Tryz.prog w= .ok 5 w:=fun w=>BT
theorem Gm(w:World)(blk off cap:Nat)(keys:List az)(ev:Nat->List Value)(_h0:0<keys.length)(hl:∀i,(ev i).length=5)(h1:∀i,∀v∈ev i,v.oneCell'=true)(hk:∀i,∃(x:ByteArray)(r:List Value),ev i= .string x:: r/\x.data.toList=keys[i % keys.length]!)(hg:GOKw w)(hb:gN<=blk)(hH:HoldsK ev 5 w blk off (Array.range keys.length))(hlt:blk<w.heap.size)(hsz:keys.length<4611686018427387904):
  Calls Tryz.prog 42 #[.slice (some ⟨blk,off,none⟩) keys.length cap,.func (.func 43) #[] #[]] w fun e w'=>e= .returned (.tuple #[])/\∃n os,w'=sortWorldK ev 5 w blk off n (jN keys).toArray os:=by
 have:=AnyQ.slices_SortFunc_eq aaf 5 RN QI ev hl h1 (OO keys keys.length) (Z9 keys keys.length) 43 #[] blk off cap (Array.range keys.length) w MD
  (fun m os dk _ x y=>Xg _ _ _ _ (hk x) (hk y) (hl x) (hl y) _ (KH hg hb)) hH hlt (by simpa using hsz)
 rw[Array.size_range]at this;refine this.mono ?_;simp_all[jN]
def X3(call:FuncId->List AV->M AV)(args:List AV)(h:Hp)(S:ak)(β:List bG)(w:World)(vs:List Value)(hr:ka 5 43 call args h≠.fail)(hg:zA S β h w)(hw:Wf S w)(hh:dh S β w h)(hv:aZ S β args vs):
  Calls Tryz.prog 42 vs.toArray w (eF none S β h w (ka 5 43 call args h)):=by
 have h0:=hr;unfold ka at hr;split at hr
 ·rename_i g';cases hb:Nat.beq g' 43 with
  |false=>grind
  |true=>
   have e:ka 5 43 call [.sl [],.fn (.func g') [] []] h= .ok (.tup []) h:=by simp only[ka,hb,aaF]
   rw[e];simp only[aZ,VR,aaW]at hv;obtain⟨_,_,rfl,⟨a,cap,rfl,_⟩,v,_,rfl,_,rfl⟩:=hv;refine (AnyF.slices_SortFunc_none aaf a cap v w).mono ?_;rintro e' w' ⟨rfl,rfl⟩;exact gR hw hh (Below.refl _ _) CY (by simp only[VR,aZ];grind)
 ·rename_i g';cases hb:Nat.beq g' 43 with
  |false=>grind
  |true=>
   have e:ka 5 43 call [.hn,.fn (.func g') [] []] h= .ok (.tup []) h:=by simp only[ka,hb,aaF]
   rw[e];simp only[aZ,VR]at hv;obtain⟨_,_,rfl,rfl,v,_,rfl,_,rfl⟩:=hv;refine (AnyF.slices_SortFunc_none aaf none 0 v w).mono ?_;rintro e' w' ⟨rfl,rfl⟩;exact gR hw hh (Below.refl _ _) CY (by simp only[VR,aZ];grind)
 ·grind [M6,Gm]
 grind
end Go.Proofs.YtkkdcdofponfiaaGreat
namespace Go.Proofs.YtkkdcdofponfiaaGreat.F
open Go Go.Av Go.Av.Ap
set_option maxRecDepth 100000
def LZ:Ann:={ kinds:=[(1,.L),(4,.S)],hl:=[16],nl:=[16,21],lw:=[2,4,8],loops:=[(0,{ vals:=[(10,none),(11,none),(12,none),(2000,none),(2001,none),(3000,none),(3001,none)],locs:=[(1,2000,0),(2,3000,0)],lbs:=[(2000,2),(3000,2)] })] }
def sA:Ann:={ iso:=false,ha:=[7] }
noncomputable def se:List (Nat×(Func×Ann)):=[(41,(Tryz.f41,LZ))]
def own:FuncId->Option Nat:=fun _=>none
noncomputable def other:FuncId->Option ((FuncId->List AV->M AV)->List AV->M AV):=fun f=>bif Nat.beq f 79 then some (dZ T 38)else none
noncomputable def pg:Pg:={ T:=T,funcs:=xD se,own:=own,other:=other,nw:=fun f=>bif Nat.beq f 79 then true else false }
def hOther:eY pg:=by
 intro f E hE call calls hc;have h0:other f=some E:=hE;unfold other at h0;rcases eU h0 with rfl|h0
 ·exact xj _ _ _ _
 cases h0
noncomputable def L41_0(call:FuncId->RR)(fx:aX AV)(a:RR)(b:List AV):M AV:=ah (bJ (dC T BinOp.lss 3 (aa b 2) (aa b 1))) (fun c=>aw c (ah (bJ (au T 38 (aa b 0) (aa b 2))) (fun d=>ah (bC T 96 d) (fun e=>ah (bn 3 e) (fun f=>ah (bJ (aU T 96 (.ip (ab f)) 1)) (fun g=>ah (bJ (aO T 49 g)) (fun h=>ah (cj (call 41 [h])) (fun i=>ah (bJ (au T 38 (aa b 4) (aa b 2))) (fun j=>ah (bJ (aU T 96 j 1)) (fun k=>ah (cp T 49 k i) (fun l=>ah (bJ (dC T BinOp.add 3 (aa b 2) (qi 1))) (fun m=>a [aa b 0,aa b 1,m,aa b 3,aa b 4,aa b 5,aa b 6]))))))))))) (ah (aC 2 [] (.agg [aa b 3,aa b 4])) (fun n=>af (.agg [aa (ab n) 0,aa (ab n) 1]))))
def XL41_0{call:FuncId->RR}:Ad (L41_0 call ae) fun _n=>L41_0 call ae  :=by
 intro a b c d;unfold L41_0;exact (dl.bnd (eT _) fun _=>(uc (dl.bnd (eT _) fun _=>(dl.bnd (eT _) fun _=>(dl.bnd (eT _) fun _=>(dl.bnd (eT _) fun _=>(dl.bnd (eT _) fun _=>(dl.bnd (eT _) fun _=>(dl.bnd (eT _) fun _=>(dl.bnd (eT _) fun _=>(dl.bnd (eT _) fun _=>(dl.bnd (eT _) fun _=>c _)))))))))) (eT _)))
def FL41_0(call:FuncId->RR)(vs:List AV):ae (L41_0 call ae) vs=L41_0 call ae  (ae (L41_0 call ae)) vs:=I9 (XL41_0) vs
noncomputable def S41(call:FuncId->RR)(fx:aX AV)(a0:AV):M AV:=ah (bn 2 a0) (fun a=>ah (call 79 [aa (ab a) 1]) (fun b=>ah (dH b) (fun c=>ah (bJ (eR T 38 b)) (fun d=>fx (L41_0 call fx) [b,d,qi 0,aa (ab a) 0,b,qi 0,.sl []]))))
def E41(call:FuncId->List AV->M AV)(fx:aX AV)(a0:AV):cB (pg.cx call Tryz.f41.ntmps LZ) fx Tryz.f41 (own 41) [a0]=S41 call fx a0:=BT
def C41(a0:AV):callW pg 41 [a0]=aI (S41 (callW pg) ae (cl ao a0)):=(hP hOther rfl rfl rfl _).trans (aaY aI (E41 _ _ (cl ao a0)))
end Go.Proofs.YtkkdcdofponfiaaGreat.F
namespace Go.Proofs.YtkkdcdofponfiaaGreat
open Go Go.Av Go.Av.Ap
set_option maxRecDepth 100000
def ZE(e:AV)(es:List AV):cB (zB Tryz.f79.ntmps sA) (dT 0) Tryz.f79 (some 3) [.sl (e:: es)]=ah (bJ (cC T 38 (.sl []) (.sl (e:: es)))) fun v=>ah (bJ (some v)) af:=BT
def ZF:cB (zB Tryz.f79.ntmps sA) (dT 0) Tryz.f79 (some 3) [.hn]=ah (bJ (some (.sl []))) af:=BT
def ZG(l off:Nat):cB (zB Tryz.f79.ntmps sA) (dT 0) Tryz.f79 (some 3) [.hs l off 0 1 false]=ah (bJ (cC T 38 (.sl []) (.hs l off 0 1 false))) fun v=>ah (bJ (some v)) af:=BT
def ZH(l off:Nat):cC T 38 (.sl []) (.hs l off 0 1 false)=some (.sl []):=by rfl
def NM(call:FuncId->List AV->M AV)(args:List AV)(h:Hp)(S:ak)(β:List bG)(w:World)(vs:List Value)(hr:ir T 38 call args h≠.fail)(hg:zA S β h w)(hw:Wf S w)(hh:dh S β w h)(hv:aZ S β args vs):
  Calls Tryz.prog 79 vs.toArray w (eF (some 3) S β h w (ir T 38 call args h)):=by
 have key:∀es,args=[.sl es]->Calls Tryz.prog 79 vs.toArray w (eF (some 3) S β h w (ir T 38 call args h)):=by
  rintro es rfl;exact (mW (cx:=zB Tryz.f79.ntmps sA) (own:=some 3) (E:=fun es h=>ir T 38 call [.sl es] h) tok (qm _ _) (wn _ _) Tryz.func79 rfl (fun h=>by rfl) (fun e es h=>by rw[ZE];exact adv (Ch _) h) (fun h=>by rw[ZF];rfl) (fun l off h=>by rw[ZG,ZH];rfl) hr hg hw hh hv).1
 unfold ir at hr;split at hr
 ·exact key _ rfl
 ·exact absurd rfl hr
end Go.Proofs.YtkkdcdofponfiaaGreat
namespace Go.Proofs.YtkkdcdofponfiaaGreat.F
open Go Go.Av Go.Av.Ap
set_option maxRecDepth 100000
def ZN(e:AV)(es:List AV):cB (zB Tryz.f79.ntmps sA) (dT 0) Tryz.f79 none [.sl (e:: es)]=ah (appH T 38 true (.sl []) (.sl (e:: es))) fun v=>ah (bJ (some v)) af:=BT
def ZO:cB (zB Tryz.f79.ntmps sA) (dT 0) Tryz.f79 none [.hn]=ah (bJ (some (.sl []))) af:=BT
def ZP(l off:Nat):cB (zB Tryz.f79.ntmps sA) (dT 0) Tryz.f79 none [.hs l off 0 1 false]=ah (appH T 38 true (.sl []) (.hs l off 0 1 false)) fun v=>ah (bJ (some v)) af:=BT
def NM(call:FuncId->List AV->M AV)(args:List AV)(h:Hp)(S:ak)(β:List bG)(w:World)(vs:List Value)(hr:dZ T 38 call args h≠.fail)(hg:zA S β h w)(hw:Wf S w)(hh:dh S β w h)(hv:aZ S β args vs):
  Calls Tryz.prog 79 vs.toArray w (eF none S β h w (dZ T 38 call args h)):=by
 have key:∀es,args=[.sl es]->Calls Tryz.prog 79 vs.toArray w (eF none S β h w (dZ T 38 call args h)):=by
  rintro es rfl;exact (mW (cx:=zB Tryz.f79.ntmps sA) (E:=fun es h=>dZ T 38 call [.sl es] h) tok (qm _ _) (wn _ _) Tryz.func79 rfl (fun h=>by rfl) (fun e es h=>by rw[ZN];exact adv (Ch _) h) (fun h=>by rw[ZO];rfl) (fun l off h=>by rw[ZP];rfl) hr hg hw hh hv).1
 unfold dZ at hr;split at hr
 ·exact key _ rfl
 ·exact absurd rfl hr
theorem Du:(se.map fun x=>Tryz.prog.funcs[x.1]?)=se.map fun x=>some x.2.1:=BT
theorem sf:(se.map fun x=>x.2.1.name== "runtime.NumGoroutine")=se.map fun _=>false:=BT
def Zx{f k:Nat}{α:Type}{x y:α}{o:Option α}(h:(bif Nat.beq f k then some x else o)=some y):(f=k/\x=y)\/o=some y:=by
 cases hb:Nat.beq f k with
 |true=>simp_all
 |false=>grind
def good:GoodPg Tryz.prog pg where
 tok:=tok
 funcs:=fun f fn a h=>by
  have:=ug se f (fn,a) h
  grind [rU,Du,sf]
 other:=by
  intro f E hE call hC args h S β w vs hr hg hw hh hv;have h0:other f=some E:=hE;unfold other at h0;rcases Zx h0 with⟨rfl,rfl⟩|h0
  ·exact⟨NM call args h S β w vs hr hg hw hh hv,BT⟩
  cases h0
 nw:=by
  intro f hf;have h0:(bif Nat.beq f 79 then true else false)=true:=hf;cases hb:Nat.beq f 79 with
  |true=>
   have:=Nat.eq_of_beq_eq_true hb
   subst this;exact⟨_,rfl,fun call args=>AF _ _ _ _⟩
  |false=>grind
theorem aP{α β:Type}{m:M α}{a:α}{h h':Hp}(e:m h= .ok a h')(f:α->M β):ah m f h=f a h':=by simp only[ah,e]
def Td(x:bQ):(ab (bF x)).length=3:=AI
def pN(l:List bQ):aB l= .sl (l.map bF):=by rw[aB,eJ]
def Nt{q:Nat}{l:List bQ}{i:Nat}{h:Hp}(hi:i<l.length)(hq:h[q]? = some (rowOf bF l)):bC T 96 (.hp q (0+i*3)) h= .ok (bF l[i]) h:=by
 have hlen:=jh (f:=bF) Td l;rw[KS (T:=T) (t:=96) rfl rfl hq (show 0+i*3+3<=_ by omega)];show R.ok (AV.agg (((rowOf bF l).drop (0+i*3)).take 3)) h=_;simp_all[kO]
def Oq{q:Nat}{l:List bQ}{i:Nat}{h:Hp}(hi:i<l.length)(hq:h[q]? = some (rowOf bF l)):cp T 49 (.hp q (0+i*3+1)) l[i].2.av h= .ok (.tup []) h:=by
 have hlen:=jh (f:=bF) Td l;refine Gq (T:=T) (t:=49) rfl hq (Ap.C0 _) (show 0+i*3+1+2<=_ by omega) Vc ?_
 have:=kO Td l i hi
 have h2:((rowOf bF l).drop (0+i*3+1)).take 2=(((rowOf bF l).drop (i*3)).take 3).drop 1:=by
  rw[List.drop_take,List.drop_drop];congr 2;omega
 simp_all
theorem ixH{q n i:Nat}(h:i<n):au T 38 (.hs q 0 n 3 true) (qi (i:Int))=some (.hp q (0+i*3)):=by
 have e:au T 38 (.hs q 0 n 3 true) (qi (i:Int))=if 0<=(i:Int)/\(i:Int)<(n:Int)then some (.hp q (0+(i:Int).toNat*3))else none:=rfl
 grind
def Ua(t:Ty)(hb:t.fields.length<=4611686018427387904)(hk:∀f∈t.fields,callW pg 41 [f.2.av]=af f.2.av)(q:Nat)(h:Hp)(hq:h[q]? = some (rowOf bF t.fields))(x5 x6:AV):∀(n i:Nat),t.fields.length-i=n->i<=t.fields.length->
  ae (L41_0 (callW pg) ae) [.hs q 0 t.fields.length 3 true,qi t.fields.length,qi i,qi t.kind,.hs q 0 t.fields.length 3 true,x5,x6] h= .ok (.agg [qi t.kind,.hs q 0 t.fields.length 3 true]) h:=by
 intro n
 induction n with
 |zero=>
  intro i hn hi;rw[FL41_0];have h1:¬((i:Int)<(t.fields.length:Int)):=WD
  have h2:aC 2 [] (.agg [qi t.kind,.hs q 0 t.fields.length 3 true])=af (.agg [qi t.kind,.hs q 0 t.fields.length 3 true]):=bU rfl;simp[L41_0,h1,h2,af]
 |succ n ih=>
  intro i hn hi;have hlt:i<t.fields.length:=WD
  have h1:(i:Int)<(t.fields.length:Int):=WD
  have ih':=ih (i+1) WD WD;have hw:IntKind.i64.wrap ((i:Int)+1)=((i+1:Nat):Int):=bz WD;have hc:=hk t.fields[i] (List.getElem_mem hlt);rw[<- ih'];generalize hcode:ae (L41_0 (callW pg) ae) [.hs q 0 t.fields.length 3 true,qi t.fields.length,qi i,qi t.kind,.hs q 0 t.fields.length 3 true,x5,x6] h=code;rw[FL41_0]at hcode;simp only[L41_0,ax,aF,bc,ai,am,h1,abj,aaV,ixH hlt]at hcode;rw[aP (Nt hlt hq)]at hcode;simp only[wY,ar,jR,FA96_1,ai,aa5,aaZ,LD49,aaX,aaW,aa7,Nat.reduceAdd,aaI,aaV,abD,abu,iL,hc,eN,FH96_1]at hcode;rw[show (i*3+1)=0+i*3+1 by omega]at hcode;rw[aP (Oq hlt hq)]at hcode;simp_all
theorem t41:∀(d:Nat)(t:Ty),FA d t->callW pg 41 [t.av]=af t.av
 |0,t,h=>h.elim
 | d+1,t,h=>by
  have hlen:t.fields.length<=100:=h.1;have ih:∀f∈t.fields,callW pg 41 [f.2.av]=af f.2.av:=fun f hf=>t41 d f.2 (h.2 f hf);have e0:callW pg 79 [aB t.fields]=dZ T 38 (callW pg) [aB t.fields]:=dc hOther rfl _;have e1:=Hc (T:=T) (t:=38) (f:=bF) (sz:=3) rfl rfl rfl rfl rfl Vc Vc (fun x=>oi x) (callW pg) t.fields (show t.fields.length*48<=140737488355328 by omega) [];rw[<- pN,<- e0]at e1;rw[C41];funext hp;show aI _ hp=R.ok t.av hp;by_cases hf:t.fields=[]
  ·rw[aaH hf]at e1;have e2:aC 2 [] (.agg [qi t.kind,.sl []])=af (.agg [qi t.kind,.sl []]):=bU rfl;have key:S41 (callW pg) ae (cl ao t.av) []= .ok (.agg [qi t.kind,.sl []]) []:=by
    simp only[S41,El,jY,ar,i9,ax,aF];rw[aP e1];simp only[dH,aG,aaF,ai,QX];rw[FL41_0];simp[L41_0,e2,af]
   unfold aI;rw[key];have:(AV.agg [qi t.kind,.sl []])=t.av:=by rw[<- iL,hf];rfl
   rw[this];simp only[R.ok.injEq,acw];exact (Clean.frz (fun g=>El g t) 6 [])
  ·rw[aaC hf]at e1;have hq:([]++[rowOf bF t.fields]:Hp)[0]? = some (rowOf bF t.fields):=rfl;have key:S41 (callW pg) ae (cl ao t.av) []= .ok (.agg [qi t.kind,.hs 0 0 t.fields.length 3 true]) ([]++[rowOf bF t.fields]):=by
    simp only[S41,El,jY,ar,i9,ax,aF];rw[aP e1];simp only[dH,aG,aaF,ai,RB,aaW];exact Ua t WD ih 0 _ hq _ _ t.fields.length 0 rfl WD
   unfold aI;rw[key];have hfr:=uk (f:=bF) Td (fun x=>AN) (fun x g=>Mm g x) Vc hq 5;have:jd 6 ([]++[rowOf bF t.fields]) (.agg [qi t.kind,.hs 0 0 t.fields.length 3 true])=t.av:=by
    rw[<- iL,pN,<- hfr];rfl
   grind
end Go.Proofs.YtkkdcdofponfiaaGreat.F
namespace Go.Proofs.YtkkdcdofponfiaaGreat
open Go Go.Av Go.Av.Ap
def X2(call:FuncId->List AV->M AV)(args:List AV)(h:Hp)(S:ak)(β:List bG)(w:World)(vs:List Value)(hr:ql call args h≠.fail)(hg:zA S β h w)(hw:Wf S w)(hh:dh S β w h)(hv:aZ S β args vs):
  Calls Tryz.prog 41 vs.toArray w (eF none S β h w (ql call args h)):=by
 unfold ql at hr |-;split at hr
 ·rename_i v;cases hc:QT 5 v with
  |false=>rw[hc]at hr;exact absurd rfl hr
  |true=>
   obtain⟨t,rfl,ht⟩:=Gz 5 v hc;have e:=adv (F.t41 5 t ht) h
   have:=(mS F.good F.hOther 41 [t.av] h S β w vs (by rw[e];simp[af]) hg hw hh hv).1
   rw[e]at this;exact this
 ·exact absurd rfl hr
theorem Bn:∀(d:Nat)(t:Ty),fC d t=true->FA d t
 |0,t,h=>by cases h
 |d+1,t,h=>by
  rw[kN]at h;simp only[aaD,aaL,aaS]at h;exact⟨qr,fun f hf=>Bn d f.2 (h.2.1 f hf).2⟩
end Go.Proofs.YtkkdcdofponfiaaGreat
