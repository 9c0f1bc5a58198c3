/- What the functions of the seat compute, part 3: the texts of the claim, one behind the other. Conditions: bounds, as each theorem names them. -/
import Derived.Test.YtnipfhmghjdnmaaGreatTb
import Derived.Test.YtnipfhmghjdnmaaGreatLd
import Derived.Test.YtnipfhmghjdnmaaGreatTa
import Derived.KernelRfl

namespace Go.Proofs.YtnipfhmghjdnmaaGreat
open Go Go.Av Go.Av.Ap
theorem loop72 (f:AV) (F:Mod→Bool) (l:List Mod) (hb:l.length≤4611686018427387904) (hf:∀ x∈l,callV (callW pg) f [Mod.av x] = M.pure (.bool (F x))):∀ (n:Nat) (i:Int),l.length - i.toNat=n→0≤i→i≤l.length →
  fixW (L72_0 (callW pg) fixW) [mods l,f,.int .i64 l.length,.int .i64 i] = M.pure (.int .i64 (idxAt F (l.drop i.toNat) i)):=by
 intro n
 induction n with
 | zero =>
  intro i hn hi hl
  rw [FL72_0]
  simp only [L72_0]
  have h1:¬ (i < (l.length:Int)):=by omega
  have h2:l.drop i.toNat = []:=List.drop_eq_nil_of_le (by omega)
  simp [h1,h2,idxAt]
 | succ n ih =>
  intro i hn hi hl
  have h1:i < (l.length:Int):=by omega
  have hlt:i.toNat < l.length:=by omega
  have h2:idxAt F (l.drop i.toNat) i=if F l[i.toNat] = true then i else idxAt F (l.drop (i.toNat + 1)) (i + 1):=by rw [List.drop_eq_getElem_cons hlt]; rfl
  have h3:=hf l[i.toNat] (List.getElem_mem hlt)
  have h4:=ih (i + 1) (by omega) (by omega) (by omega)
  rw [show (i + 1).toNat=i.toNat + 1 by omega] at h4
  rw [FL72_0]
  simp only [L72_0]
  simp (disch:=omega) [h1,wrap_in,IX22,h3,h2]
  cases F l[i.toNat]
  ·simpa using h4
  ·simp
theorem t72 (f:AV) (F:Mod→Bool) (l:List Mod) (hb:l.length≤4611686018427387904) (hc:∀ g,cl g f=f) (hf:∀ x∈l,callV (callW pg) f [Mod.av x] = M.pure (.bool (F x))):callW pg 72 [mods l,f] = M.pure (.int .i64 (idxAt F l 0)):=by
 rw [C72]
 simp [S72,hc,loop72 f F l hb hf l.length 0 rfl (by omega) (by omega)]
theorem loop74 (f:AV) (F:Fun→Bool) (l:List Fun) (hb:l.length≤4611686018427387904) (hf:∀ x∈l,callV (callW pg) f [Fun.av x] = M.pure (.bool (F x))):∀ (n:Nat) (i:Int),l.length - i.toNat=n→0≤i→i≤l.length →
  fixW (L74_0 (callW pg) fixW) [funs l,f,.int .i64 l.length,.int .i64 i] = M.pure (.int .i64 (idxAt F (l.drop i.toNat) i)):=by
 intro n
 induction n with
 | zero =>
  intro i hn hi hl
  rw [FL74_0]
  simp only [L74_0]
  have h1:¬ (i < (l.length:Int)):=by omega
  have h2:l.drop i.toNat = []:=List.drop_eq_nil_of_le (by omega)
  simp [h1,h2,idxAt]
 | succ n ih =>
  intro i hn hi hl
  have h1:i < (l.length:Int):=by omega
  have hlt:i.toNat < l.length:=by omega
  have h2:idxAt F (l.drop i.toNat) i=if F l[i.toNat] = true then i else idxAt F (l.drop (i.toNat + 1)) (i + 1):=by rw [List.drop_eq_getElem_cons hlt]; rfl
  have h3:=hf l[i.toNat] (List.getElem_mem hlt)
  have h4:=ih (i + 1) (by omega) (by omega) (by omega)
  rw [show (i + 1).toNat=i.toNat + 1 by omega] at h4
  rw [FL74_0]
  simp only [L74_0]
  simp (disch:=omega) [h1,wrap_in,IX51,h3,h2]
  cases F l[i.toNat]
  ·simpa using h4
  ·simp
theorem t74 (f:AV) (F:Fun→Bool) (l:List Fun) (hb:l.length≤4611686018427387904) (hc:∀ g,cl g f=f) (hf:∀ x∈l,callV (callW pg) f [Fun.av x] = M.pure (.bool (F x))):callW pg 74 [funs l,f] = M.pure (.int .i64 (idxAt F l 0)):=by
 rw [C74]
 simp [S74,hc,loop74 f F l hb hf l.length 0 rfl (by omega) (by omega)]
theorem loop171 (f:AV) (F:Fld→Bool) (l:List Fld) (hb:l.length≤4611686018427387904) (hf:∀ x∈l,callV (callW pg) f [fldAv x] = M.pure (.bool (F x))):∀ (n:Nat) (i:Int),l.length - i.toNat=n→0≤i→i≤l.length →
  fixW (L171_0 (callW pg) fixW) [flds l,f,.int .i64 l.length,.int .i64 i] = M.pure (.int .i64 (idxAt F (l.drop i.toNat) i)):=by
 intro n
 induction n with
 | zero =>
  intro i hn hi hl
  rw [FL171_0]
  simp only [L171_0]
  have h1:¬ (i < (l.length:Int)):=by omega
  have h2:l.drop i.toNat = []:=List.drop_eq_nil_of_le (by omega)
  simp [h1,h2,idxAt]
 | succ n ih =>
  intro i hn hi hl
  have h1:i < (l.length:Int):=by omega
  have hlt:i.toNat < l.length:=by omega
  have h2:idxAt F (l.drop i.toNat) i=if F l[i.toNat] = true then i else idxAt F (l.drop (i.toNat + 1)) (i + 1):=by rw [List.drop_eq_getElem_cons hlt]; rfl
  have h3:=hf l[i.toNat] (List.getElem_mem hlt)
  have h4:=ih (i + 1) (by omega) (by omega) (by omega)
  rw [show (i + 1).toNat=i.toNat + 1 by omega] at h4
  rw [FL171_0]
  simp only [L171_0]
  simp (disch:=omega) [h1,wrap_in,IX50,h3,h2]
  cases F l[i.toNat]
  ·simpa using h4
  ·simp
theorem t171 (f:AV) (F:Fld→Bool) (l:List Fld) (hb:l.length≤4611686018427387904) (hc:∀ g,cl g f=f) (hf:∀ x∈l,callV (callW pg) f [fldAv x] = M.pure (.bool (F x))):callW pg 171 [flds l,f] = M.pure (.int .i64 (idxAt F l 0)):=by
 rw [C171]
 simp [S171,hc,loop171 f F l hb hf l.length 0 rfl (by omega) (by omega)]
theorem t138 (m:Mod) (s:Str):callW pg 138 [m.av,.ip [.str s]] = M.pure (.bool (m.name == s)):=by
 rw [C138]; simp [S138,cl,cls]
theorem t139 (f:Fun) (s:Str):callW pg 139 [f.av,.ip [.str s]] = M.pure (.bool (f.name == s)):=by
 rw [C139]; simp [S139,cl,cls]
theorem t72' (p:List Mod) (hp:p.length≤4611686018427387904) (s:Str):callW pg 72 [mods p,.fn (.func 138) [] [.ip [.str s]]] = M.pure (.int .i64 (modAt p s)) :=
 t72 _ _ p hp (fun _g=>rfl) (fun m _=>t138 m s)
theorem t74' (p:List Fun) (hp:p.length≤4611686018427387904) (s:Str):callW pg 74 [funs p,.fn (.func 139) [] [.ip [.str s]]] = M.pure (.int .i64 (funAt p s)) :=
 t74 _ _ p hp (fun _g=>rfl) (fun m _=>t139 m s)
theorem t120 (n:Int):callW pg 120 [.int .i64 n] = M.pure (Val.mk 0 n [] []).av:=by
 rw [C120]
 rfl
theorem t121 (b:Bool):callW pg 121 [.bool b] = M.pure (truthV b).av:=by
 rw [C121]
 cases b <;> rfl
theorem t118 (b:Bool) (n:Int):callW pg 118 [.bool b,.int .i64 n] = if b=true then M.pure (.tup []) else throwM (.iface 69 (.int .i64 n)):=by
 rw [C118]
 cases b <;> rfl
theorem clip25 (l:List Str):sliceA T 28 (strs l) none (some (.int .i64 l.length)) (some (.int .i64 l.length))=some (strs l):=by
 have:=sliceA_clip (T:=T) (t:=28) (e:=9) rfl rfl rfl (l.map AV.str)
 simpa [strs] using this
theorem clip23 (l:List Val):sliceA T 61 (vals l) none (some (.int .i64 l.length)) (some (.int .i64 l.length))=some (vals l):=by
 have:=sliceA_clip (T:=T) (t:=61) (e:=71) rfl rfl rfl (valsAv l)
 simpa [vals,valsAv_map] using this
theorem t167 (l:List Str):callW pg 167 [strs l] = M.pure (strs l):=by
 rw [C167]
 simp [S167,clip25,isoP_pure (a:=strs l) fun g=>cl_strs g l]
theorem t168 (l:List Val):callW pg 168 [vals l] = M.pure (vals l):=by
 rw [C168]
 simp [S168,clip23]
end Go.Proofs.YtnipfhmghjdnmaaGreat

namespace Go.Proofs.YtnipfhmghjdnmaaGreat
open Go Go.Av Go.Av.Ap
def scopeAv (o:Int) (ns:List Str) (vs:List Val):AV:=.agg [.int .i64 o,strs ns,vals vs]
@[simp] theorem acells_scope (o:Int) (ns:List Str) (vs:List Val):acells (scopeAv o ns vs) = [.int .i64 o,strs ns,vals vs]:=rfl
theorem fold_scope (o:Int) (ns:List Str) (vs:List Val):AV.agg [.int .i64 o,strs ns,vals vs] = scopeAv o ns vs:=rfl
theorem cl_scope (g) (o:Int) (ns:List Str) (vs:List Val):cl g (scopeAv o ns vs)=scopeAv o ns vs:=by
 simp [scopeAv,cl,cls,cl_strs,cl_vals]
theorem okEl_scope (o:Int) (ns:List Str) (vs:List Val):okEl 3 (scopeAv o ns vs)=true:=by simp [okEl,okCell,strs,vals,scopeAv,sizeA,acells]
theorem isoP_scope (o:Int) (ns:List Str) (vs:List Val):isoP (M.pure (scopeAv o ns vs))=M.pure (scopeAv o ns vs):=isoP_pure fun g=>cl_scope g o ns vs
set_option maxHeartbeats 1000000 in
theorem t119 (n:Int):callW pg 119 [.int .i64 n] = M.pure (.int .i64 (argsN n)):=by
 rw [C119]
 unfold argsN
 simp only [S119,K119_0,K119_1,K119_2,K119_3,cl,jn_def,bin_eql,bnd_some,condM_bool,nth_zero,nth_succ,beq_iff_eq]
 by_cases h0:n=0
 ·simp [h0]
 by_cases h1:n=1
 ·simp [h1]
 by_cases h2:n=2
 ·simp [h2]
 by_cases h17:n=17
 ·simp [h17]
 by_cases h10:n=10
 ·simp [h10]
 by_cases h14:n=14
 ·simp [h14]
 by_cases h16:n=16
 ·simp [h16]
 by_cases h18:n=18
 ·simp [h18]
 by_cases h3:n=3
 ·simp [h3]
 by_cases h4:n=4
 ·simp [h4]
 by_cases h5:n=5
 ·simp [h5]
 by_cases h6:n=6
 ·simp [h6]
 by_cases h7:n=7
 ·simp [h7]
 by_cases h8:n=8
 ·simp [h8]
 by_cases h9:n=9
 ·simp [h9]
 by_cases h12:n=12
 ·simp [h12]
 by_cases h11:n=11
 ·simp [h11]
 by_cases h13:n=13
 ·simp [h13]
 by_cases h15:n=15
 ·simp [h15]
 simp [h0,h1,h2,h17,h10,h14,h16,h18,h3,h4,h5,h6,h7,h8,h9,h12,h11,h13,h15]
theorem t124 (o:Int) (ns:List Str) (vs:List Val) (s:Str) (v:Val) (h1:ns.length≤1099511627776) (h2:vs.length≤1099511627776) :
  callW pg 124 [scopeAv o ns vs,.str s,v.av] = M.pure (scopeAv o (ns++[s]) (vs++[v])):=by
 have hb1:buildSliceA T 28 1 [(0,.str s)] = some (strs [s]):=rfl
 have hb2:buildSliceA T 61 1 [(0,v.av)] = some (vals [v]):=by rw [v.av_eq]; simp [vals,valsAv,v.av_eq]; rfl
 have ha1:appA T 28 (strs ns) (strs [s])=some (strs (ns++[s])):=AP28 (by simp; omega)
 have ha2:appA T 61 (vals vs) (vals [v])=some (vals (vs++[v])):=AP61 (by simp; omega)
 have hb3:buildA T false 145 [(0,.int .i64 o),(1,strs (ns++[s])),(2,vals (vs++[v]))] = some (scopeAv o (ns++[s]) (vs++[v])):=rfl
 rw [C124,cl_scope]
 simp [S124,cl,t167,t168,hb1,hb2,ha1,ha2,hb3,fold_scope,okEl_scope,isoP_scope]
def errAv (e:Int):AV:=.iface 69 (.int .i64 e)
def mustM (b:Bool) (e:Int) (x:M AV):M AV:=if b=true then x else throwM (errAv e)
theorem bnd_must (b:Bool) (e:Int) (f:AV→M AV):bnd (callW pg 118 [.bool b,.int .i64 e]) f=mustM b e (f (.tup [])):=by
 rw [t118]
 unfold mustM
 cases b <;> rfl
def pureX:X Val→M AV:=fun x=>match x ⟨0,0,[],[],[],[]⟩ with
 | .ok v _=>M.pure v.av
 | .er e _=>throwM (errAv e)
theorem t122 (op:Int) (a b:Val) (_h:op=3∨op=4∨op=5∨op=6∨op=7):callW pg 122 [.int .i64 op,a.av,b.av] = pureX (binX op a b):=by
 rw [C122]
 unfold binX
 have hn:=t120
 have ht:=t121
 simp only [S122,bin_eql,bnd_some,condM_bool,acells_val]
 by_cases h7:op=7
 ·by_cases hk:a.kind=b.kind
  ·by_cases h2:a.kind=2
   ·have h2':b.kind=2:=by omega
    simp [h7,hk,h2',bnd_must,mustM,pureX,X.er]
   ·have h2':¬ b.kind=2:=by omega
    simp [h7,hk,h2',bnd_must,mustM,pureX,X.ok,ht]
  ·simp [h7,hk,bnd_must,mustM,pureX,X.er]
 ·by_cases ha:a.kind=0
  ·by_cases hb:b.kind=0
   ·simp only [h7,ha,hb,beq_self_eq_true,and_self,if_true,if_false,beq_iff_eq,FA71_0,FA71_1,List.drop_zero,LD3,bnd_some,bin_eql,guardM_pure1,bnd_pure,pickA_and,nth_zero,bnd_must,mustM,Bool.and_self,List.drop_succ_cons,bin_add,bin_sub,bin_mul,bin_lss,hn,ht]
    by_cases h3:op=3
    ·simp [h3,pureX,X.ok,numV,wr]
     rfl
    by_cases h4:op=4
    ·simp [h4,pureX,X.ok,numV,wr]
     rfl
    by_cases h5:op=5
    ·simp [h5,pureX,X.ok,numV,wr]
     rfl
    simp [h3,h4,h5,pureX,X.ok]
   ·simp [h7,ha,hb,bnd_must,mustM,pureX,X.er]
  ·simp [h7,ha,bnd_must,mustM,pureX,X.er]
theorem t126 (l:List Str) (s:Str) (hb:l.length≤1099511627776):callW pg 126 [strs l,.str s] = M.pure (.int .i64 (idxAt (fun x=>s == x) l 0)):=by
 have hl:∀ (n:Nat) (i:Int),l.length - i.toNat=n→0≤i→i≤l.length→fixW (L126_0 (callW pg) fixW) [strs l,.str s,.int .i64 l.length,.int .i64 i] = M.pure (.int .i64 (idxAt (fun x=>s == x) (l.drop i.toNat) i)):=by
  intro n
  induction n with
  | zero =>
   intro i hn hi hl
   rw [FL126_0]
   simp only [L126_0]
   have h1:¬ (i < (l.length:Int)):=by omega
   have h2:l.drop i.toNat = []:=List.drop_eq_nil_of_le (by omega)
   simp [h1,h2,idxAt]
  | succ n ih =>
   intro i hn hi hl
   have h1:i < (l.length:Int):=by omega
   have hlt:i.toNat < l.length:=by omega
   have h2:idxAt (fun x=>s == x) (l.drop i.toNat) i=if (s == l[i.toNat])=true then i else idxAt (fun x=>s == x) (l.drop (i.toNat + 1)) (i + 1):=by rw [List.drop_eq_getElem_cons hlt]; rfl
   have h4:=ih (i + 1) (by omega) (by omega) (by omega)
   rw [show (i + 1).toNat=i.toNat + 1 by omega] at h4
   rw [FL126_0]
   simp only [L126_0]
   simp (disch:=omega) [h1,wrap_in,IX28,h2]
   by_cases h:s=l[i.toNat]
   ·simp [h]
   ·simp [h]
    simpa using h4
 rw [C126]
 simp [S126,cl,hl l.length 0 rfl (by omega) (by omega)]
theorem t170:∀ (n:Nat) (v:Val),v.sz≤n→v.sz≤1099511627776→callW pg 170 [v.av] = M.pure (.int .i64 (levelV v:Nat)):=by
 intro n
 induction n with
 | zero=>intro v h; have:=v.sz_pos; omega
 | succ n ih =>
  intro v hn hv
  have hlen:=v.sz_len
  have hlv:∀ (l:List Val),valsSz l≤1099511627776→levelsV l≤1099511627776:=by
   intro l
   induction l with
   | nil=>intro _; simp [levelsV]
   | cons x l ih2 =>
    intro h
    simp only [valsSz] at h
    have:=ih2 (by omega)
    have hx:∀ (k:Nat) (y:Val),y.sz≤k→levelV y≤y.sz:=by
     intro k
     induction k with
     | zero=>intro y hy; have:=y.sz_pos; omega
     | succ k ihk =>
      intro y hy
      rw [levelV_eq]
      have h1:=y.sz_values
      have h2:levelsV y.values≤valsSz y.values:=(levelsV_le _ _).2 fun z hz=>Nat.le_trans (ihk z (by have:=Val.sz_mem hz; omega)) (valsSz_mem hz)
      omega
    simp only [levelsV]
    have:=hx _ x (Nat.le_refl _)
    omega
  have hl:∀ (B A:List Val) (c:Nat),A++B=v.values→c≤1099511627776→fixW (L170_0 (callW pg) fixW) [.int .i64 (c:Nat),vals v.values,.int .i64 v.values.length,.int .i64 A.length] = M.pure (.int .i64 ((max c (levelsV B) + 1:Nat))):=by
   intro B
   induction B with
   | nil =>
    intro A c e hc
    simp only [List.append_nil] at e
    subst e
    rw [FL170_0]
    simp (disch:=omega) [L170_0,levelsV,wrap_in]
   | cons x B ih2 =>
    intro A c e hc
    have hll:A.length + (B.length + 1)=v.values.length:=by rw [← e]; simp
    have h1:(A.length:Int) < (v.values.length:Int):=by omega
    have hx:v.values[A.length]! = x:=by
     rw [← e,getElem!_pos _ _ (by simp)]
     simp
    have hm:x∈v.values:=by rw [← e]; simp
    have hx':v.values[A.length]'(by omega)=x:=by rw [← hx,getElem!_pos]
    have h3:=ih x (by have:=Val.sz_mem hm; omega) (by have:=Val.sz_mem hm; omega)
    have hxb:levelV x≤1099511627776:=Nat.le_trans ((levelsV_le v.values _).1 (hlv v.values (by have:=v.sz_values; omega)) x hm) (Nat.le_refl _)
    have h4:=ih2 (A++[x]) (max c (levelV x)) (by rw [← e]; simp) (by omega)
    rw [FL170_0]
    have hmx:(max (c:Int) (levelV x:Int))=((max c (levelV x):Nat):Int):=by omega
    simp (disch:=omega) [L170_0,h1,wrap_in,IX61,hx',h3,hmx] at h4 ⊢
    rw [h4]
    simp only [levelsV]
  rw [C170]
  have:=hl v.values [] 0 rfl (by omega)
  simp at this
  simp [S170,this,levelV_eq]
theorem t172 (f:Fld) (e:Exp):callW pg 172 [fldAv f,.ip (acells e.av)] = M.pure (.bool (f.1 == e.s)):=by
 rw [C172]; simp [S172,cl,cls]
theorem t171' (l:List Fld) (hl:l.length≤1099511627776) (e:Exp):callW pg 171 [flds l,.fn (.func 172) [] [.ip (acells e.av)]] = M.pure (.int .i64 (fldAt l e.s)) :=
 t171 _ _ l (by omega) (fun g=>by simp [cl,cls]) (fun f _=>t172 f e)
end Go.Proofs.YtnipfhmghjdnmaaGreat

namespace Go.Proofs.YtnipfhmghjdnmaaGreat
open Go Go.Av Go.Av.Ap
def pvOf (t:Bool) (p:List Mod):AV:=if t=true then (match p with | []=>.hn | _=>mods p) else mods p
theorem pvOf_ne {t:Bool} {p:List Mod} (h:p≠[]):pvOf t p=mods p:=by
 cases t with
 | false=>rfl
 | true=>cases p with
  | nil=>exact absurd rfl h
  | cons _ _=>rfl
def wvOf (t:Bool) (w:List Int):AV:=if t=true then .hn else ints w
def rowP (p:List Mod) (t:Bool) (m:Ms) (dv cv sv:AV):List AV:=[pvOf t p,wvOf t m.world,.int .i64 m.fuel,.int .i64 m.frames,.int .i64 0,.int .i64 0,.int .i64 0,.hn,.hn,dv,cv,sv]
abbrev RepP (p:List Mod) (nm:SNm):=Rep (rowP p nm.told) nm
structure LimP (p:List Mod):Prop where
 len:p.length≤1099511627776
 funcs:∀ m∈p,m.funcs.length≤1099511627776∧m.vars.length≤1099511627776
theorem LimP.funcsAt {p:List Mod} (L:LimP p) (i:Nat):(p[i]?.getD default).funcs.length≤1099511627776∧(p[i]?.getD default).vars.length≤1099511627776:=by
 cases h:p[i]? with
 | none=>exact ⟨Nat.zero_le _,Nat.zero_le _⟩
 | some m=>exact L.funcs m (List.mem_of_getElem? h)
theorem idxAt_lt {α:Type} (F:α→Bool):(l:List α)→(i:Int)→idxAt F l i = -1∨(i≤idxAt F l i∧idxAt F l i < i + l.length)
 | [],i=>.inl rfl
 | x :: l,i=>by
  simp only [idxAt]
  split
  ·exact .inr ⟨Int.le_refl _,by simp; omega⟩
  ·rcases idxAt_lt F l (i + 1) with h | h
   ·exact .inl h
   ·exact .inr ⟨by omega,by simp; omega⟩
theorem t97 {p:List Mod} {nm:SNm} {m:Ms} {h:Hp} (R:RepP p nm m h) (L:LimP p) (s:Str):callW pg 97 [.hp 0 0,.str s] h = .ok (.int .i64 (modAt p s)) h:=by
 obtain ⟨tag,dv,cv,sv,R⟩:=R
 have h0:loadH T 22 (.hp 0 (0 + 0)) h = .ok (pvOf nm.told p) h:=loadH_one rfl rfl R.r0 rfl
 have hpv:∀ f:AV,callW pg 72 [pvOf nm.told p,f] = callW pg 72 [mods p,f]:=fun f=>by
  by_cases hp:p = []
  ·subst hp
   cases nm.told with
   | false=>rfl
   | true=>rw [C72,C72]; rfl
  ·rw [pvOf_ne hp]
 rw [C97]
 simp only [S97,nilChkA_hp,bnd_some,FH141_0]
 rw [bnd_ok h0,hpv]
 have:=t72' p (by have:=L.len; omega) s
 simp only [acells_str,this,bnd_pure]
 rfl
def funTup:Option Fun→AV
 | some f=>.tup [f.av,.bool true]
 | none=>.tup [Fun.av default,.bool false]
theorem t98 {p:List Mod} {nm:SNm} {m:Ms} {h:Hp} (R:RepP p nm m h) (L:LimP p) (a:Int) (ha:a < p.length) (s:Str):callW pg 98 [.hp 0 0,.int .i64 a,.str s] h = .ok (funTup (funcX p a s)) h:=by
 obtain ⟨tag,dv,cv,sv,R⟩:=R
 have h0:p≠[]→loadH T 22 (.hp 0 (0 + 0)) h = .ok (mods p) h:=fun hp=>loadH_one rfl rfl R.r0 (by rw [← pvOf_ne (t:=nm.told) hp]; rfl)
 have hz:buildA T false 90 [] = some (Fun.av default):=rfl
 have hzz:∀ f:Fun,AV.agg [nth (acells f.av) 0,nth (acells f.av) 1,nth (acells f.av) 2,nth (acells f.av) 3,nth (acells f.av) 4,nth (acells f.av) 5,nth (acells f.av) 6,nth (acells f.av) 7,nth (acells f.av) 8,nth (acells f.av) 9,nth (acells f.av) 10,nth (acells f.av) 11] = f.av:=fun f=>by simp
 have hcf:∀ f:Fun,cellsNil 12 [] f.av=M.pure (.agg (acells f.av)):=fun f=>cellsNil_of (okEl_fun f)
 have hac:∀ f:Fun,acells (.agg (acells f.av))=acells f.av:=fun _=>rfl
 rw [C98]
 unfold funcX
 simp only [S98,bin_lss,bnd_some,condM_bool]
 by_cases h1:a < 0
 ·simp only [h1,decide_true,if_true,hz,bnd_some,hcf,bnd_pure,hac,hzz]
  rfl
 ·simp only [h1,decide_false,Bool.false_eq_true,if_false,nilChkA_hp,bnd_some,FH141_0]
  rw [bnd_ok (h0 (fun e=>by subst e; simp at ha; omega))]
  have hi:=IX22 (l:=p) (n:=a) (by omega) ha
  have hlt:a.toNat < p.length:=by omega
  have e1:p[a.toNat]! = p[a.toNat]?.getD default:=by rw [getElem!_pos p a.toNat hlt,List.getElem?_eq_getElem hlt]; rfl
  have hlen:=(L.funcsAt a.toNat).1
  have hx:=t74' (p[a.toNat]?.getD default).funcs (by omega) s
  generalize hm:p[a.toNat]?.getD default=md at hx hlen e1
  rw [hi,e1]
  simp only [bnd_some,acells_mod,FA55_4,List.drop_succ_cons,List.drop_zero,LD51,acells_str,hx,bnd_pure,bin_lss,condM_bool]
  by_cases h2:funAt md.funcs s < 0
  ·simp only [h2,decide_true,if_true,hz,bnd_some,hcf,bnd_pure,hac,hzz]
   rfl
  ·simp only [h2,decide_false,Bool.false_eq_true,if_false]
   rcases idxAt_lt (fun f=>f.name == s) md.funcs 0 with h3 | h3
   ·exact absurd (show funAt md.funcs s < 0 by unfold funAt; rw [h3]; decide) h2
   ·have h4:funAt md.funcs s < (md.funcs.length:Int):=by unfold funAt; omega
    have h5:(funAt md.funcs s).toNat < md.funcs.length:=by omega
    rw [IX51 (by omega) h4,getElem!_pos md.funcs _ h5,List.getElem?_eq_getElem h5]
    have hld:loadA T 90 (.ip (acells (md.funcs[(funAt md.funcs s).toNat]).av))=some (md.funcs[(funAt md.funcs s).toNat]).av:=by simp
    simp only [bnd_some,hld,hcf,bnd_pure,hac,hzz]
    rfl
end Go.Proofs.YtnipfhmghjdnmaaGreat

namespace Go.Proofs.YtnipfhmghjdnmaaGreat
open Go Go.Av Go.Av.Ap
def OutG {α:Type} (p:List Mod) (nm:SNm) (enc:α→AV) (r:Rs α) (c:R AV):Prop:=match r with
 | .ok v s=>∃ h',c = .ok (enc v) h'∧RepP p nm s h'
 | .er e s=>∃ h',c = .pan (errAv e) h'∧RepP p nm s h'
theorem out_bind {α β:Type} {p:List Mod} {nm:SNm} {enc:α→AV} {enc':β→AV} {x:X α} {f:α→X β} {c:M AV} {d:AV→M AV} {m:Ms} {h:Hp} (H:OutG p nm enc (x m) (c h))
  (K:∀ a s h',x m = .ok a s→RepP p nm s h'→OutG p nm enc' (f a s) (d (enc a) h')):OutG p nm enc' (x.bind f m) (bnd c d h):=by
 unfold X.bind
 cases hr:x m with
 | ok a s =>
  rw [hr] at H
  obtain ⟨h',h1,h2⟩:=H
  rw [bnd_ok h1]
  exact K a s h' hr h2
 | er e s =>
  rw [hr] at H
  obtain ⟨h',h1,h2⟩:=H
  exact ⟨h',bnd_pan h1,h2⟩
theorem out_pure {α:Type} {p:List Mod} {nm:SNm} {enc:α→AV} {a:α} {m:Ms} {h:Hp} (R:RepP p nm m h):OutG p nm enc (X.ok a m) (M.pure (enc a) h):=⟨h,rfl,R⟩
theorem out_er {α:Type} {p:List Mod} {nm:SNm} {enc:α→AV} {e:Int} {m:Ms} {h:Hp} (R:RepP p nm m h):OutG p nm enc (X.er e m) (throwM (errAv e) h):=⟨h,rfl,R⟩
theorem wrap4 (v:Val):bnd (cellsNil 4 [] v.av) (fun w=>M.pure (AV.agg [nth (acells w) 0,nth (acells w) 1,nth (acells w) 2,nth (acells w) 3]))=M.pure v.av:=by simp
def tickM (m:Ms):Ms:={ m with fuel:=m.fuel - 1 }
theorem rep_tick {p:List Mod} {nm:SNm} {tag:Nat→Nat} {dv cv sv:AV} {m:Ms} {h:Hp} (R:RepT (rowP p nm.told) nm tag dv cv sv m h):RepT (rowP p nm.told) nm tag dv cv sv (tickM m) (h.set 0 (rowP p nm.told (tickM m) dv cv sv)):=R.set0 rfl rfl rfl id
theorem step0 {p:List Mod} {nm:SNm} {m:Ms} {h:Hp} (R:RepP p nm m h):∃ h1,RepP p nm (tickM m) h1 ∧
  (∀ f:AV→M AV,bnd (loadH T 3 (.hp 0 2)) f h=f (.int .i64 m.fuel) h)∧(∀ f:AV→M AV,bnd (storeH T 3 (.hp 0 2) (.int .i64 (m.fuel - 1))) f h=f (.tup []) h1):=by
 obtain ⟨tag,dv,cv,sv,R⟩:=R
 refine ⟨_,⟨tag,dv,cv,sv,rep_tick R⟩,fun f=>bnd_ok (loadH_one rfl rfl R.r0 rfl),fun f=>bnd_ok (storeH_ok rfl R.r0 rfl (show 2 + 1≤12 by decide) (by decide))⟩
theorem ev_low {p:List Mod} {nm:SNm} {m:Ms} {h:Hp} (R:RepP p nm m h) (hf:¬ 0 < m.fuel) (sc:AV) (e:Exp):callW pg 90 [.hp 0 0,sc,e.av] h = .pan (errAv 16) h:=by
 obtain ⟨tag,dv,cv,sv,R⟩:=R
 have h0:∀ f:AV→M AV,bnd (loadH T 3 (.hp 0 2)) f h=f (.int .i64 m.fuel) h:=fun f=>bnd_ok (loadH_one rfl rfl R.r0 rfl)
 rw [C90]
 simp [S90,h0,hf,bnd_must,mustM,throwM]
def CntOK (e:Exp):Prop:=¬ argsN e.op = -2∧(argsN e.op = -1∨argsN e.op=e.args.length)
theorem ev_cnt {p:List Mod} {nm:SNm} {m:Ms} {h:Hp} (R:RepP p nm m h) (G:GoodM p m) (hf:0 < m.fuel) (sc:AV) (e:Exp) (hc:¬ CntOK e):∃ h1,RepP p nm (tickM m) h1∧callW pg 90 [.hp 0 0,sc,e.av] h = .pan (errAv 13) h1:=by
 obtain ⟨h1,R1,hl,hs⟩:=step0 R
 refine ⟨h1,R1,?_⟩
 have hw:IntKind.i64.wrap (m.fuel - 1)=m.fuel - 1:=wrap_in (by omega) (by have:=G.bud; simp only [mu] at this; omega)
 unfold CntOK at hc
 rw [C90]
 simp [S90,hl,hs,hf,bnd_must,mustM,hw,t119,hc]
 rfl
mutual
def expLim:Exp→Prop
 | .mk _ _ _ _ ns es=>ns.length≤8796093022208∧es.length≤274877906944∧expsLim es
def expsLim:List Exp→Prop
 | []=>True
 | e :: es=>expLim e∧expsLim es
end
theorem expsLim_mem:{l:List Exp} → expsLim l→∀ e∈l,expLim e
 | [],_,_,h=>by cases h
 | x :: l,H,e,h=>by
  simp only [expsLim] at H
  rcases List.mem_cons.1 h with rfl | h
  ·exact H.1
  ·exact expsLim_mem H.2 e h
theorem expLim_arg {e x:Exp} (H:expLim e) (h:x∈e.args):expLim x:=by
 obtain ⟨o,n,s,m,ns,es⟩:=e
 simp only [expLim] at H
 exact expsLim_mem H.2.2 x h
theorem expLim_names {e:Exp} (H:expLim e):e.names.length≤8796093022208∧e.args.length≤274877906944:=by
 obtain ⟨o,n,s,m,ns,es⟩:=e
 simp only [expLim] at H
 exact ⟨H.1,H.2.1⟩
structure LimB (p:List Mod):Prop where
 lim:LimP p
 body:∀ m∈p,∀ f∈m.funcs,expLim f.body∧f.params.length≤274877906944
structure Sc (p:List Mod) (own:Int) (ns:List Str) (vs:List Val) (m:Ms):Prop where
 own:own < p.length
 right:RightS ns vs
 len:(ns.length:Int) + m.fuel≤549755813888
def EvOK (p:List Mod) (nm:SNm) (n:Nat):Prop:=∀ own ns vs e m h,RepP p nm m h→GoodM p m→m.fuel≤n→Sc p own ns vs m→expLim e→OutG p nm Val.av (evalX p n own ns vs e m) (callW pg 90 [.hp 0 0,scopeAv own ns vs,e.av] h)
def BoolOK (p:List Mod) (nm:SNm) (n:Nat):Prop:=∀ own ns vs e m h,RepP p nm m h→GoodM p m→m.fuel≤n→Sc p own ns vs m→expLim e→OutG p nm AV.bool (boolX (evalX p n own ns vs e) m) (callW pg 123 [.hp 0 0,scopeAv own ns vs,e.av] h)
def RecOK (p:List Mod) (nm:SNm) (n:Nat):Prop:=∀ own ns vs e m h,RepP p nm m h→GoodM p m→m.fuel≤n→Sc p own ns vs m→expLim e→OutG p nm Val.av (recordX (evalX p n own ns vs) e m) (callW pg 125 [.hp 0 0,scopeAv own ns vs,e.av] h)
def CallOK (p:List Mod) (nm:SNm) (n:Nat):Prop:=∀ own ns vs e m h,RepP p nm m h→GoodM p m→mu m < 1000000→m.fuel≤n→Sc p own ns vs m→expLim e→OutG p nm Val.av (callX p (evalX p n) own ns vs e m) (callW pg 127 [.hp 0 0,scopeAv own ns vs,e.av] h)
def worldX (p:List Mod) (r:Exp→X Val) (own:Int) (e:Exp):X Val:=if e.op=16 then actX (r e.args[0]!) e else varX p r own e
def WorldOK (p:List Mod) (nm:SNm) (n:Nat):Prop:=∀ own ns vs e m h,e.op=16∨e.op=17∨e.op=18→CntOK e→RepP p nm m h→GoodM p m→mu m < 1000000→m.fuel≤n→Sc p own ns vs m→expLim e→OutG p nm Val.av (worldX p (evalX p n own ns vs) own e m) (callW pg 128 [.hp 0 0,scopeAv own ns vs,e.av] h)
theorem Sc.less {p:List Mod} {own:Int} {ns:List Str} {vs:List Val} {m s:Ms} (H:Sc p own ns vs m) (h:s.fuel≤m.fuel):Sc p own ns vs s:=⟨H.own,H.right,by have:=H.len; omega⟩
theorem t123 {p:List Mod} {nm:SNm} {n:Nat} (IH:EvOK p nm n):BoolOK p nm n:=by
 intro own ns vs e m h R G hn hs he
 unfold boolX
 have hsc:loadA T 145 (.ip (acells (scopeAv own ns vs)))=some (scopeAv own ns vs):=rfl
 have hex:loadA T 31 (.ip (acells e.av))=some e.av:=by simp
 rw [C123]
 simp only [S123,hsc,hex,bnd_some]
 refine out_bind (IH own ns vs e m h R G hn hs he) fun v s h' hv Rs=>?_
 simp only [cellsM_of (okEl_val v),bnd_pure,acells_agg,acells_val,FA71_0,FA71_1,List.drop_zero,LD3,bnd_some,bin_eql,bnd_must,mustM,List.drop_succ_cons]
 by_cases hk:v.kind=1
 ·simp only [hk,beq_self_eq_true,if_true]
  exact out_pure Rs
 ·have:(v.kind == 1)=false:=by simpa using hk
  simp only [hk,this,if_false,Bool.false_eq_true]
  exact out_er Rs
theorem look_snoc:∀ (ns:List Str) (vs:List Val) (n:Str) (v:Val) (s:Str),ns.length=vs.length→lookV (ns++[n]) (vs++[v]) s=if n=s then some v else lookV ns vs s
 | [],[],n,v,s,_=>by simp [lookV]
 | a :: ns,b :: vs,n,v,s,h=>by
  simp only [List.cons_append,lookV,look_snoc ns vs n v s (by simpa using h)]
  by_cases hn:n=s
  ·simp [hn]
  ·simp [hn]
 | [],_ :: _,_,_,_,h=>by simp at h
 | _ :: _,[],_,_,_,h=>by simp at h
def lookM (o:Option Val):M AV:=match o with
 | some v=>M.pure v.av
 | none=>throwM (errAv 12)
theorem loop_var (kk:List AV→M AV) (own:Int) (ns:List Str) (vs:List Val) (e:Exp) (x1 x2 x3 x4:AV) (hl:ns.length=vs.length) (hb:ns.length≤1099511627776):∀ (i:Nat),i≤ns.length →
  fixW (L90_0 (callW pg) fixW kk) [.hp 0 0,.ip [.int .i64 own,strs ns,vals vs],.ip (acells e.av),.int .i64 ((i:Int) - 1),x1,x2,x3,x4] = lookM (lookV (ns.take i) (vs.take i) e.s)
 | 0,_=>by
  have hi:mkIfaceA T 69 (.int .i64 12)=some (errAv 12):=rfl
  rw [FL90_0]
  simp only [L90_0,nth_zero,nth_succ,bin_geq,bnd_some,condM_bool,hi]
  simp [lookV,lookM,panM]
  rfl
 | i + 1,hi=>by
  have ih:=loop_var kk own ns vs e x1 x2 x3 x4 hl hb i (by omega)
  have h1:i < ns.length:=by omega
  have h2:i < vs.length:=by omega
  have h3:(ns.take (i + 1))=ns.take i++[ns[i]]:=by simp
  have h4:(vs.take (i + 1))=vs.take i++[vs[i]]:=by simp
  rw [h3,h4,look_snoc _ _ _ _ _ (by simp; omega),FL90_0]
  have e1:((i + 1:Nat):Int) - 1=(i:Int):=by omega
  rw [e1]
  simp only [L90_0]
  simp (disch:=omega) [wrap_in,IX28,IX61]
  simp only [acells_exp] at ih
  by_cases hs:ns[i] = e.s
  ·simp [hs,lookM]
  ·simp [hs,ih]
end Go.Proofs.YtnipfhmghjdnmaaGreat

namespace Go.Proofs.YtnipfhmghjdnmaaGreat
open Go Go.Av Go.Av.Ap
@[simp] theorem ixe0 (a:Exp) (l:List Exp):indexAddrA T 29 (exps (a :: l)) (.int .i64 0)=some (.ip (acells a.av)):=by
 have:=IX29 (l:=a :: l) (n:=0) (by omega) (by simp <;> omega)
 simpa using this
@[simp] theorem ixe1 (a b:Exp) (l:List Exp):indexAddrA T 29 (exps (a :: b :: l)) (.int .i64 1)=some (.ip (acells b.av)):=by
 have:=IX29 (l:=a :: b :: l) (n:=1) (by omega) (by simp <;> omega)
 simpa using this
@[simp] theorem ixe2 (a b c:Exp) (l:List Exp):indexAddrA T 29 (exps (a :: b :: c :: l)) (.int .i64 2)=some (.ip (acells c.av)):=by
 have:=IX29 (l:=a :: b :: c :: l) (n:=2) (by omega) (by simp <;> omega)
 simpa using this
section
variable (o n:Int) (s m:Str) (ns:List Str) (es:List Exp)
@[simp] theorem op_mk:(Exp.mk o n s m ns es).op=o:=rfl
@[simp] theorem n_mk:(Exp.mk o n s m ns es).n=n:=rfl
@[simp] theorem s_mk:(Exp.mk o n s m ns es).s=s:=rfl
@[simp] theorem m_mk:(Exp.mk o n s m ns es).m=m:=rfl
@[simp] theorem names_mk:(Exp.mk o n s m ns es).names=ns:=rfl
@[simp] theorem args_mk:(Exp.mk o n s m ns es).args=es:=rfl
end
theorem fold_exp' (o n:Int) (s m:Str) (ns:List Str) (es:List Exp):AV.agg [.int .i64 o,.int .i64 n,.str s,.str m,strs ns,exps es] = (Exp.mk o n s m ns es).av:=by rw [Exp.av,Exp.cells_eq]; rfl
theorem fieldV_idx:∀ (ns:List Str) (vs:List Val) (s:Str) (i:Int),ns.length=vs.length→(idxAt (fun x=>s == x) ns i = -1∧fieldV ns vs s=none)∨(∃ (k:Nat) (h:k < vs.length),idxAt (fun x=>s == x) ns i=i + k∧fieldV ns vs s=some vs[k])
 | [],[],s,i,_=>.inl ⟨rfl,rfl⟩
 | n :: ns,v :: vs,s,i,h=>by
  simp only [idxAt,fieldV]
  by_cases hn:n=s
  ·right
   exact ⟨0,by simp,by simp [hn],by simp [hn]⟩
  ·have hn':(s == n)=false:=by simpa using fun e=>hn e.symm
   simp only [if_neg hn,hn',Bool.false_eq_true,if_false]
   rcases fieldV_idx ns vs s (i + 1) (by simpa using h) with ⟨h1,h2⟩ | ⟨k,hk,h1,h2⟩
   ·left
    exact ⟨by simpa using h1,h2⟩
   ·right
    exact ⟨k + 1,by simp; omega,by simp [h1]; omega,by simpa using h2⟩
 | [],_ :: _,_,_,h=>by simp at h
 | _ :: _,[],_,_,h=>by simp at h
theorem pureX_out {p:List Mod} {nm:SNm} {x:X Val} (hx:(∃ v,x = .ok v)∨(∃ e,x = .er e)) {m:Ms} {h:Hp} (R:RepP p nm m h):OutG p nm Val.av (x m) (pureX x h):=by
 rcases hx with ⟨v,rfl⟩ | ⟨e,rfl⟩
 ·exact out_pure R
 ·exact out_er R
theorem binX_pure (op:Int) (a b:Val):(∃ v,binX op a b = .ok v)∨(∃ e,binX op a b = .er e):=by
 unfold binX
 split
 ·split
  ·exact .inl ⟨_,rfl⟩
  ·exact .inr ⟨_,rfl⟩
 ·split
  ·split
   ·exact .inl ⟨_,rfl⟩
   ·split
    ·exact .inl ⟨_,rfl⟩
    ·split
     ·exact .inl ⟨_,rfl⟩
     ·exact .inl ⟨_,rfl⟩
  ·exact .inr ⟨_,rfl⟩
theorem len1 {l:List Exp} (h:l.length=1):∃ a,l = [a]:=by
 match l,h with
 | [a],_=>exact ⟨a,rfl⟩
theorem len2 {l:List Exp} (h:l.length=2):∃ a b,l = [a,b]:=by
 match l,h with
 | [a,b],_=>exact ⟨a,b,rfl⟩
theorem len3 {l:List Exp} (h:l.length=3):∃ a b c,l = [a,b,c]:=by
 match l,h with
 | [a,b,c],_=>exact ⟨a,b,c,rfl⟩
theorem out_ite {α:Type} {p:List Mod} {nm:SNm} {enc:α→AV} {c:Prop} [Decidable c] {x y:X α} {a b:M AV} {m:Ms} {h:Hp} (h1:c→OutG p nm enc (x m) (a h)) (h2:¬ c→OutG p nm enc (y m) (b h)):OutG p nm enc ((if c then x else y) m) ((if c then a else b) h):=by
 split
 ·exact h1 ‹_›
 ·exact h2 ‹_›
theorem eq_bool (a b:Bool):binA T .eql 4 (.bool a) (.bool b)=some (.bool (a == b)):=by cases a <;> cases b <;> rfl
theorem wrap4' (v:Val) (h:Hp):bnd (cellsNil 4 [] v.av) (fun w=>M.pure (AV.agg [nth (acells w) 0,nth (acells w) 1,nth (acells w) 2,nth (acells w) 3])) h=M.pure v.av h:=by rw [wrap4]
theorem out_wrap {p:List Mod} {nm:SNm} {r:Rs Val} {c:M AV} {h:Hp} (H:OutG p nm Val.av r (c h)):OutG p nm Val.av r (bnd c (fun v=>bnd (cellsNil 4 [] v) fun w=>M.pure (AV.agg [nth (acells w) 0,nth (acells w) 1,nth (acells w) 2,nth (acells w) 3])) h):=by
 cases r with
 | ok v s =>
  obtain ⟨h',h1,h2⟩:=H
  refine ⟨h',?_,h2⟩
  rw [bnd_ok h1,wrap4]
  rfl
 | er e s =>
  obtain ⟨h',h1,h2⟩:=H
  exact ⟨h',bnd_pan h1,h2⟩
theorem eval_step {p:List Mod} {nm:SNm} {n:Nat} (IH:EvOK p nm n) (IR:RecOK p nm n) (IC:CallOK p nm n) (IW:WorldOK p nm n):EvOK p nm (n + 1):=by
 intro own ns vs e m h R G hn hs he
 have IB:=t123 IH
 by_cases hf:0 < m.fuel
 rotate_left
 ·have e1:evalX p (n + 1) own ns vs e m = .er 16 m:=by
   show stepX p (evalX p n) own ns vs e m=_
   unfold stepX X.get
   simp only
   rw [if_pos (by omega)]
   rfl
  rw [e1]
  exact ⟨h,ev_low R hf _ e,R⟩
 have hspec:evalX p (n + 1) own ns vs e m=(if argsN e.op = -2∨(argsN e.op ≠ -1∧argsN e.op≠e.args.length) then .er 13
   else if e.op=0 then .ok (numV e.n)
   else if e.op=1 then (if e.n=0∨e.n=1 then .ok (truthV (e.n == 1)) else .er 13)
   else if e.op=2 then (match lookV ns vs e.s with | some v=>.ok v | none=>.er 12)
   else if e.op=3∨e.op=4∨e.op=5∨e.op=6∨e.op=7 then (evalX p n own ns vs e.args[0]!).bind fun a=>(evalX p n own ns vs e.args[1]!).bind fun b=>binX e.op a b
   else if e.op=8∨e.op=9 then (boolX (evalX p n own ns vs e.args[0]!)).bind fun x=>if x=(e.op == 9) then .ok (truthV (e.op == 9)) else (boolX (evalX p n own ns vs e.args[1]!)).bind fun y=>.ok (truthV y)
   else if e.op=10 then (boolX (evalX p n own ns vs e.args[0]!)).bind fun x=>.ok (truthV !x)
   else if e.op=11 then (boolX (evalX p n own ns vs e.args[0]!)).bind fun x=>if x=true then evalX p n own ns vs e.args[1]! else evalX p n own ns vs e.args[2]!
   else if e.op=12 then (evalX p n own ns vs e.args[0]!).bind fun v=>evalX p n own (ns++[e.s]) (vs++[v]) e.args[1]!
   else if e.op=13 then recordX (evalX p n own ns vs) e
   else if e.op=14 then (evalX p n own ns vs e.args[0]!).bind fun v=>(match fieldV v.names v.values e.s with | some x=>if v.kind=2 then .ok x else .er 13 | none=>.er 13)
   else if e.op=15 then callX p (evalX p n) own ns vs e
   else worldX p (evalX p n own ns vs) own e:X Val) (tickM m):=by
  show stepX p (evalX p n) own ns vs e m=_
  unfold stepX X.get
  simp only
  rw [if_neg (by omega)]
  have hw:(if e.op=16 then actX (evalX p n own ns vs e.args[0]!) e else varX p (evalX p n own ns vs) own e)=worldX p (evalX p n own ns vs) own e:=rfl
  rw [hw]
  rfl
 have hbm:=G.bud
 have G1:GoodM p (tickM m):=⟨G.right,by simp only [mu,tickM] at hbm ⊢; omega,G.fr,by simp only [tickM]; omega,G.shape⟩
 have hmu:mu (tickM m) < 1000000:=by simp only [mu,tickM] at hbm ⊢; omega
 have hn1:(tickM m).fuel≤n:=by simp only [tickM]; omega
 have hft:(tickM m).fuel≤m.fuel:=by simp only [tickM]; omega
 have hs1:Sc p own ns vs (tickM m):=hs.less hft
 by_cases hc:CntOK e
 rotate_left
 ·obtain ⟨h1,R1,e1⟩:=ev_cnt R G hf (scopeAv own ns vs) e hc
  have hc':argsN e.op = -2∨(argsN e.op ≠ -1∧argsN e.op≠e.args.length):=by
   unfold CntOK at hc
   by_cases k:argsN e.op = -2
   ·exact .inl k
   ·right
    exact ⟨fun k2=>hc ⟨k,.inl k2⟩,fun k2=>hc ⟨k,.inr k2⟩⟩
  rw [hspec,if_pos hc']
  exact ⟨h1,e1,R1⟩
 obtain ⟨h1,R1,hl,hst⟩:=step0 R
 have hw:IntKind.i64.wrap (m.fuel - 1)=m.fuel - 1:=wrap_in (by omega) (by simp only [mu] at hbm; omega)
 have hc':¬ (argsN e.op = -2∨(argsN e.op ≠ -1∧argsN e.op≠e.args.length)):=by
  unfold CntOK at hc
  rintro (k | ⟨k1,k2⟩)
  ·exact hc.1 k
  ·rcases hc.2 with k | k
   ·exact k1 k
   ·exact k2 k
 rw [hspec,if_neg hc']
 have hcc:=hc
 have hce:=hc.2
 obtain ⟨op,en,es,em,en2,ea⟩:=e
 simp only [op_mk,n_mk,s_mk,args_mk] at hce ⊢
 unfold CntOK at hc
 simp only [op_mk,args_mk] at hc
 generalize hcode:callW pg 90 [.hp 0 0,scopeAv own ns vs,(Exp.mk op en es em en2 ea).av] h=code
 rw [C90] at hcode
 have hW:∀ v:Val,∀ h,bnd (cellsNil 4 [] v.av) (fun w=>M.pure (AV.agg [nth (acells w) 0,nth (acells w) 1,nth (acells w) 2,nth (acells w) 3])) h=M.pure v.av h:=wrap4'
 by_cases k0:op=0
 ·subst k0
  have hlen:ea.length=0:=by simp [argsN] at hce; omega
  obtain rfl:=List.eq_nil_of_length_eq_zero hlen
  simp [S90,hl,hst,hf,bnd_must,mustM,hw,t119,argsN,K90_2,K90_1,fold_scope,t120] at hcode
  simp
  rw [← hcode]
  exact out_pure (a:=numV en) R1
 by_cases k1:op=1
 ·subst k1
  have hlen:ea.length=0:=by simp [argsN] at hce; omega
  obtain rfl:=List.eq_nil_of_length_eq_zero hlen
  simp [S90,hl,hst,hf,bnd_must,mustM,hw,t119,argsN,K90_2,K90_1,fold_scope,t121] at hcode
  simp
  rw [← hcode]
  exact out_ite (fun _=>out_pure (a:=truthV (en == 1)) R1) (fun _=>out_er R1)
 by_cases k2:op=2
 ·subst k2
  have hlen:ea.length=0:=by simp [argsN] at hce; omega
  obtain rfl:=List.eq_nil_of_length_eq_zero hlen
  have hnl:=hs.right.1
  have hns:(ns.length:Int)≤549755813888:=by have:=hs.len; omega
  have hloop:=loop_var (K90_0 (callW pg) fixW) own ns vs (.mk 2 en es em en2 []) (.int .i64 0) (.int .i64 0) (.sl []) (.sl []) hnl (by omega) ns.length (Nat.le_refl _)
  have hwl:IntKind.i64.wrap ((ns.length:Int) - 1)=(ns.length:Int) - 1:=wrap_in (by omega) (by omega)
  rw [List.take_length,hnl,List.take_length] at hloop
  simp only [acells_exp,op_mk,n_mk,s_mk,m_mk,names_mk,args_mk] at hloop
  simp [S90,hl,hst,hf,bnd_must,mustM,hw,t119,argsN,hwl] at hcode
  rw [hnl,hloop] at hcode
  simp
  rw [← hcode]
  cases lookV ns vs es with
  | none=>exact out_er R1
  | some v=>exact out_pure R1
 by_cases k3:op=3
 ·subst k3
  have hlen:ea.length=2:=by simp [argsN] at hce; omega
  obtain ⟨a,b,rfl⟩:=len2 hlen
  have ha:expLim a:=expLim_arg he (by simp)
  have hb:expLim b:=expLim_arg he (by simp)
  simp [S90,hl,hst,hf,bnd_must,mustM,hw,t119,argsN,K90_2,K90_1,fold_scope] at hcode
  simp
  rw [← hcode]
  refine out_bind (IH own ns vs a _ _ R1 G1 hn1 hs1 ha) fun x s1 h2 hx R2=>?_
  obtain ⟨G2,_,f2⟩:=G1.eval hs1.right hx
  refine out_bind (IH own ns vs b _ _ R2 G2 (by omega) (hs1.less f2) hb) fun y s2 h3 hy R3=>?_
  rw [t122 3 x y (by simp)]
  exact out_wrap (c:=pureX (binX 3 x y)) (pureX_out (binX_pure _ _ _) R3)
 by_cases k4:op=4
 ·subst k4
  have hlen:ea.length=2:=by simp [argsN] at hce; omega
  obtain ⟨a,b,rfl⟩:=len2 hlen
  have ha:expLim a:=expLim_arg he (by simp)
  have hb:expLim b:=expLim_arg he (by simp)
  simp [S90,hl,hst,hf,bnd_must,mustM,hw,t119,argsN,K90_2,K90_1,fold_scope] at hcode
  simp
  rw [← hcode]
  refine out_bind (IH own ns vs a _ _ R1 G1 hn1 hs1 ha) fun x s1 h2 hx R2=>?_
  obtain ⟨G2,_,f2⟩:=G1.eval hs1.right hx
  refine out_bind (IH own ns vs b _ _ R2 G2 (by omega) (hs1.less f2) hb) fun y s2 h3 hy R3=>?_
  rw [t122 4 x y (by simp)]
  exact out_wrap (c:=pureX (binX 4 x y)) (pureX_out (binX_pure _ _ _) R3)
 by_cases k5:op=5
 ·subst k5
  have hlen:ea.length=2:=by simp [argsN] at hce; omega
  obtain ⟨a,b,rfl⟩:=len2 hlen
  have ha:expLim a:=expLim_arg he (by simp)
  have hb:expLim b:=expLim_arg he (by simp)
  simp [S90,hl,hst,hf,bnd_must,mustM,hw,t119,argsN,K90_2,K90_1,fold_scope] at hcode
  simp
  rw [← hcode]
  refine out_bind (IH own ns vs a _ _ R1 G1 hn1 hs1 ha) fun x s1 h2 hx R2=>?_
  obtain ⟨G2,_,f2⟩:=G1.eval hs1.right hx
  refine out_bind (IH own ns vs b _ _ R2 G2 (by omega) (hs1.less f2) hb) fun y s2 h3 hy R3=>?_
  rw [t122 5 x y (by simp)]
  exact out_wrap (c:=pureX (binX 5 x y)) (pureX_out (binX_pure _ _ _) R3)
 by_cases k6:op=6
 ·subst k6
  have hlen:ea.length=2:=by simp [argsN] at hce; omega
  obtain ⟨a,b,rfl⟩:=len2 hlen
  have ha:expLim a:=expLim_arg he (by simp)
  have hb:expLim b:=expLim_arg he (by simp)
  simp [S90,hl,hst,hf,bnd_must,mustM,hw,t119,argsN,K90_2,K90_1,fold_scope] at hcode
  simp
  rw [← hcode]
  refine out_bind (IH own ns vs a _ _ R1 G1 hn1 hs1 ha) fun x s1 h2 hx R2=>?_
  obtain ⟨G2,_,f2⟩:=G1.eval hs1.right hx
  refine out_bind (IH own ns vs b _ _ R2 G2 (by omega) (hs1.less f2) hb) fun y s2 h3 hy R3=>?_
  rw [t122 6 x y (by simp)]
  exact out_wrap (c:=pureX (binX 6 x y)) (pureX_out (binX_pure _ _ _) R3)
 by_cases k7:op=7
 ·subst k7
  have hlen:ea.length=2:=by simp [argsN] at hce; omega
  obtain ⟨a,b,rfl⟩:=len2 hlen
  have ha:expLim a:=expLim_arg he (by simp)
  have hb:expLim b:=expLim_arg he (by simp)
  simp [S90,hl,hst,hf,bnd_must,mustM,hw,t119,argsN,K90_2,K90_1,fold_scope] at hcode
  simp
  rw [← hcode]
  refine out_bind (IH own ns vs a _ _ R1 G1 hn1 hs1 ha) fun x s1 h2 hx R2=>?_
  obtain ⟨G2,_,f2⟩:=G1.eval hs1.right hx
  refine out_bind (IH own ns vs b _ _ R2 G2 (by omega) (hs1.less f2) hb) fun y s2 h3 hy R3=>?_
  rw [t122 7 x y (by simp)]
  exact out_wrap (c:=pureX (binX 7 x y)) (pureX_out (binX_pure _ _ _) R3)
 by_cases k8:op=8
 ·subst k8
  have hlen:ea.length=2:=by simp [argsN] at hce; omega
  obtain ⟨a,b,rfl⟩:=len2 hlen
  have ha:expLim a:=expLim_arg he (by simp)
  have hb:expLim b:=expLim_arg he (by simp)
  simp [S90,hl,hst,hf,bnd_must,mustM,hw,t119,argsN,K90_2,K90_1,fold_scope] at hcode
  simp
  rw [← hcode]
  refine out_bind (IB own ns vs a _ _ R1 G1 hn1 hs1 ha) fun x s1 h2 hx R2=>?_
  obtain ⟨G2,f2⟩:=G1.bool hs1.right hx
  rw [eq_bool]
  simp only [bnd_some,condM_bool]
  cases x
  ·simp [t121]
   exact out_pure R2
  ·simp
   refine out_bind (IB own ns vs b _ _ R2 G2 (by omega) (hs1.less f2) hb) fun y s2 h3 hy R3=>?_
   simp only [t121,noPan_pure,bnd_pure,hW]
   exact out_pure R3
 by_cases k9:op=9
 ·subst k9
  have hlen:ea.length=2:=by simp [argsN] at hce; omega
  obtain ⟨a,b,rfl⟩:=len2 hlen
  have ha:expLim a:=expLim_arg he (by simp)
  have hb:expLim b:=expLim_arg he (by simp)
  simp [S90,hl,hst,hf,bnd_must,mustM,hw,t119,argsN,K90_2,K90_1,fold_scope] at hcode
  simp
  rw [← hcode]
  refine out_bind (IB own ns vs a _ _ R1 G1 hn1 hs1 ha) fun x s1 h2 hx R2=>?_
  obtain ⟨G2,f2⟩:=G1.bool hs1.right hx
  rw [eq_bool]
  simp only [bnd_some,condM_bool]
  cases x
  ·simp
   refine out_bind (IB own ns vs b _ _ R2 G2 (by omega) (hs1.less f2) hb) fun y s2 h3 hy R3=>?_
   simp only [t121,noPan_pure,bnd_pure,hW]
   exact out_pure R3
  ·simp [t121]
   exact out_pure R2
 by_cases k10:op=10
 ·subst k10
  have hlen:ea.length=1:=by simp [argsN] at hce; omega
  obtain ⟨a,rfl⟩:=len1 hlen
  have ha:expLim a:=expLim_arg he (by simp)
  simp [S90,hl,hst,hf,bnd_must,mustM,hw,t119,argsN,K90_2,K90_1,fold_scope] at hcode
  simp
  rw [← hcode]
  refine out_bind (IB own ns vs a _ _ R1 G1 hn1 hs1 ha) fun x s1 h2 hx R2=>?_
  simp only [unA_not,bnd_some,t121,noPan_pure,bnd_pure,hW]
  exact out_pure R2
 by_cases k11:op=11
 ·subst k11
  have hlen:ea.length=3:=by simp [argsN] at hce; omega
  obtain ⟨a,b,c,rfl⟩:=len3 hlen
  have ha:expLim a:=expLim_arg he (by simp)
  have hb:expLim b:=expLim_arg he (by simp)
  have hc3:expLim c:=expLim_arg he (by simp)
  simp [S90,hl,hst,hf,bnd_must,mustM,hw,t119,argsN,K90_2,K90_1,fold_scope] at hcode
  simp
  rw [← hcode]
  refine out_bind (IB own ns vs a _ _ R1 G1 hn1 hs1 ha) fun x s1 h2 hx R2=>?_
  obtain ⟨G2,f2⟩:=G1.bool hs1.right hx
  simp only [condM_bool]
  exact out_ite (fun _=>out_wrap (IH own ns vs b _ _ R2 G2 (by omega) (hs1.less f2) hb)) (fun _=>out_wrap (IH own ns vs c _ _ R2 G2 (by omega) (hs1.less f2) hc3))
 by_cases k12:op=12
 ·subst k12
  have hlen:ea.length=2:=by simp [argsN] at hce; omega
  obtain ⟨a,b,rfl⟩:=len2 hlen
  have ha:expLim a:=expLim_arg he (by simp)
  have hb:expLim b:=expLim_arg he (by simp)
  simp [S90,hl,hst,hf,bnd_must,mustM,hw,t119,argsN,K90_2,K90_1,fold_scope] at hcode
  simp
  rw [← hcode]
  refine out_bind (IH own ns vs a _ _ R1 G1 hn1 hs1 ha) fun x s1 h2 hx R2=>?_
  obtain ⟨G2,rx,f2⟩:=G1.eval hs1.right hx
  have hsl:=hs1.len
  have hrl:=hs1.right.1
  have hfu:=G1.fuel
  rw [t124 own ns vs es x (by omega) (by omega)]
  simp only [noPan_pure,bnd_pure]
  refine out_wrap (IH own (ns++[es]) (vs++[x]) b _ _ R2 G2 (by omega) ⟨hs1.own,⟨by simp [hrl],fun w hw=>?_⟩,?_⟩ hb)
  ·rcases List.mem_append.1 hw with k | k
   ·exact hs1.right.2 w k
   ·simp only [List.mem_singleton] at k; subst k; exact rx
  ·have:(tickM m).fuel=m.fuel - 1:=rfl
   have:=hs.len
   simp only [List.length_append,List.length_singleton]
   omega
 by_cases k13:op=13
 ·subst k13
  simp [S90,hl,hst,hf,bnd_must,mustM,hw,t119,argsN,K90_2,K90_1,fold_scope,fold_exp'] at hcode
  simp
  rw [← hcode]
  exact out_wrap (IR own ns vs _ _ _ R1 G1 hn1 hs1 he)
 by_cases k14:op=14
 ·subst k14
  have hlen:ea.length=1:=by simp [argsN] at hce; omega
  obtain ⟨a,rfl⟩:=len1 hlen
  have ha:expLim a:=expLim_arg he (by simp)
  simp [S90,hl,hst,hf,bnd_must,mustM,hw,t119,argsN,K90_2,K90_1,fold_scope] at hcode
  simp
  rw [← hcode]
  refine out_bind (IH own ns vs a _ _ R1 G1 hn1 hs1 ha) fun x s1 h2 hx R2=>?_
  obtain ⟨G2,rx,f2⟩:=G1.eval hs1.right hx
  have hrl:=right_lens rx
  have h8:=right_len8 rx
  have hi:=t126 x.names es (by omega)
  rw [cellsM_of (okEl_val x)]
  simp only [bnd_pure,acells_agg,acells_val,List.drop_succ_cons,List.drop_zero,LD28,LD61,LD3,bnd_some,hi,bin_eql,bin_geq,guardM_pure1,nth_zero,pickA_and,bnd_must,mustM]
  rcases fieldV_idx x.names x.values es 0 hrl with ⟨j1,j2⟩ | ⟨k,hk,j1,j2⟩
  ·rw [j1,j2]
   simp only [show decide ((0:Int) ≤ -1)=false by decide,Bool.and_false,Bool.false_eq_true,if_false]
   exact out_er R2
  ·rw [j1,j2]
   have hk0:decide ((0:Int)≤0 + (k:Int))=true:=by simp
   rw [hk0]
   simp only [Bool.and_true]
   by_cases hk2:x.kind=2
   ·have hix:=IX61 (l:=x.values) (n:=0 + (k:Int)) (by omega) (by omega)
    have e5:(0 + (k:Int)).toNat=k:=by omega
    rw [e5,getElem!_pos x.values k hk] at hix
    have hld:loadA T 71 (.ip (acells (x.values[k]).av))=some (x.values[k]).av:=by simp
    simp only [hk2,beq_self_eq_true,if_true,hix,bnd_some,hld,hW]
    exact out_pure R2
   ·have hk2':(x.kind == 2)=false:=by simpa using hk2
    simp only [hk2,hk2',Bool.false_eq_true,if_false]
    exact out_er R2
 by_cases k15:op=15
 ·subst k15
  simp [S90,hl,hst,hf,bnd_must,mustM,hw,t119,argsN,K90_2,K90_1,fold_scope,fold_exp'] at hcode
  simp
  rw [← hcode]
  exact out_wrap (IC own ns vs _ _ _ R1 G1 hmu hn1 hs1 he)
 by_cases k16:op=16
 ·subst k16
  simp [S90,hl,hst,hf,bnd_must,mustM,hw,t119,argsN,K90_2,K90_1,K90_0,fold_scope,fold_exp'] at hcode
  have hce':argsN 16=ea.length:=by simp only [argsN] at hce ⊢; simpa using hce
  simp only [argsN] at hce'
  simp at hce'
  simp [← hce'] at hcode
  simp
  rw [← hcode]
  exact out_wrap (IW own ns vs (.mk 16 en es em en2 ea) _ _ (by simp) hcc R1 G1 hmu hn1 hs1 he)
 by_cases k17:op=17
 ·subst k17
  simp [S90,hl,hst,hf,bnd_must,mustM,hw,t119,argsN,K90_2,K90_1,K90_0,fold_scope,fold_exp'] at hcode
  have hce':argsN 17=ea.length:=by simp only [argsN] at hce ⊢; simpa using hce
  simp only [argsN] at hce'
  simp at hce'
  simp [← hce'] at hcode
  simp
  rw [← hcode]
  exact out_wrap (IW own ns vs (.mk 17 en es em en2 ea) _ _ (by simp) hcc R1 G1 hmu hn1 hs1 he)
 by_cases k18:op=18
 ·subst k18
  simp [S90,hl,hst,hf,bnd_must,mustM,hw,t119,argsN,K90_2,K90_1,K90_0,fold_scope,fold_exp'] at hcode
  have hce':argsN 18=ea.length:=by simp only [argsN] at hce ⊢; simpa using hce
  simp only [argsN] at hce'
  simp at hce'
  simp [← hce'] at hcode
  simp
  rw [← hcode]
  exact out_wrap (IW own ns vs (.mk 18 en es em en2 ea) _ _ (by simp) hcc R1 G1 hmu hn1 hs1 he)
 exfalso
 apply hc.1
 simp [argsN,k0,k1,k2,k3,k4,k5,k6,k7,k8,k9,k10,k11,k12,k13,k14,k15,k16,k17,k18]
end Go.Proofs.YtnipfhmghjdnmaaGreat

namespace Go.Proofs.YtnipfhmghjdnmaaGreat
open Go Go.Av Go.Av.Ap
theorem xbind_assoc {α β γ:Type} (x:X α) (f:α→X β) (g:β→X γ):(x.bind f).bind g=x.bind fun a=>(f a).bind g:=by
 funext m
 unfold X.bind
 cases x m <;> rfl
theorem xbind_ok {α β:Type} (a:α) (f:α→X β):(X.ok a).bind f=f a:=rfl
theorem t169 (l:List Str) (h:l.length≤8796093022208):callW pg 169 [strs l] = M.pure (strs l):=by
 have e:callW pg 169 [strs l] = cloneV T 28 (callW pg) [strs l]:=callW_other hOther rfl _
 rw [e]
 show lft (appA T 28 (.sl []) (strs l))=_
 have:=AP28 (a:=[]) (b:=l) (by simp; omega)
 simp only [List.nil_append] at this
 show lft (appA T 28 (strs []) (strs l))=_
 rw [this]
 rfl
theorem loop_rec {p:List Mod} {nm:SNm} {n:Nat} (IH:EvOK p nm n) (own:Int) (ns:List Str) (vs:List Val) (en:List Str) (es:List Exp) (x5 x6 x7 x8:AV) (hes:∀ e∈es,expLim e) (h8:es.length≤8) :
  ∀ (B A:List Exp) (acc:List Val) (m:Ms) (h:Hp),A++B=es→acc.length=A.length→(∀ v∈acc,Rv v)→en.length≤8→RepP p nm m h→GoodM p m→m.fuel≤n→Sc p own ns vs m →
  OutG p nm Val.av ((listX (evalX p n own ns vs) B).bind (fun ws=>if levelV (.mk 2 0 en (acc++ws))≤4 then .ok (.mk 2 0 en (acc++ws)) else .er 6) m)
   (fixW (L125_0 (callW pg) fixW) [.hp 0 0,.ip (acells (scopeAv own ns vs)),exps es,.int .i64 es.length,.int .i64 A.length,x5,x6,x7,x8,.int .i64 2,.int .i64 0,strs en,vals acc] h)
 | [], A,acc,m,h,e,ha,hr,hen,R,G,hn,hs=>by
  simp only [List.append_nil] at e
  subst e
  have hsz:(Val.mk 2 0 en acc).sz≤1099511627776:=by
   have h2:valsSz acc≤acc.length * 200000:=by
    have key:∀ l:List Val,(∀ v∈l,Rv v)→valsSz l≤l.length * 200000:=by
     intro l
     induction l with
     | nil=>intro _; simp [valsSz]
     | cons v l ih =>
      intro h
      have h1:=right_sz (h v List.mem_cons_self)
      have h2:=ih fun w hw=>h w (List.mem_cons_of_mem _ hw)
      simp only [valsSz,List.length_cons]
      omega
    exact key acc hr
   simp only [Val.sz]
   have:acc.length * 200000≤8 * 200000:=Nat.mul_le_mul_right _ (by omega)
   omega
  have hlv:=t170 _ (.mk 2 0 en acc) (Nat.le_refl _) hsz
  rw [Val.av_eq] at hlv
  simp only [Val.kind_mk,Val.n_mk,Val.names_mk,Val.values_mk] at hlv
  have hw:∀ h,bnd (cellsNil 4 [] (AV.agg [.int .i64 2,.int .i64 0,strs en,vals acc])) (fun w=>M.pure (AV.agg [nth (acells w) 0,nth (acells w) 1,nth (acells w) 2,nth (acells w) 3])) h=M.pure (Val.mk 2 0 en acc).av h:=fun h=>by
   have:=wrap4' (Val.mk 2 0 en acc) h
   rw [Val.av_eq] at this ⊢
   exact this
  rw [FL125_0]
  simp only [listX,xbind_ok,List.append_nil]
  simp only [L125_0,nth_zero,nth_succ,bin_lss,bnd_some,condM_bool,Int.lt_irrefl,decide_false,Bool.false_eq_true,if_false,hlv,bnd_pure,bin_leq,bnd_must,mustM]
  by_cases h4:levelV (.mk 2 0 en acc)≤4
  ·have h4':decide (((levelV (.mk 2 0 en acc):Nat):Int)≤4)=true:=by simp; omega
   simp only [h4,h4',if_true,hw]
   exact out_pure R
  ·have h4':decide (((levelV (.mk 2 0 en acc):Nat):Int)≤4)=false:=by simp; omega
   simp only [h4,h4',Bool.false_eq_true,if_false]
   exact out_er R
 | x :: B,A,acc,m,h,e,ha,hr,hen,R,G,hn,hs=>by
  have hll:A.length + (B.length + 1)=es.length:=by rw [← e]; simp
  have h1:(A.length:Int) < (es.length:Int):=by omega
  have hx:es[A.length]'(by omega)=x:=by subst e; simp
  have hm:x∈es:=by rw [← e]; simp
  have hi:=IX29 (l:=es) (n:=(A.length:Int)) (by omega) h1
  rw [show ((A.length:Int)).toNat=A.length by omega,getElem!_pos es A.length (by omega),hx] at hi
  have hsc:loadA T 145 (.ip (acells (scopeAv own ns vs)))=some (scopeAv own ns vs):=rfl
  have hex:loadA T 31 (.ip (acells x.av))=some x.av:=by simp
  rw [FL125_0]
  simp only [listX,xbind_assoc,xbind_ok]
  simp only [L125_0,nth_zero,nth_succ,bin_lss,bnd_some,condM_bool,h1,decide_true,if_true,hi,hex,cellsM_of (okEl_exp x),bnd_pure,hsc,acells_agg]
  refine out_bind (IH own ns vs x m h R G hn hs (hes x hm)) fun v s h' hv Rs=>?_
  obtain ⟨G2,rv,f2⟩:=G.eval hs.right hv
  have hb2:buildSliceA T 61 1 [(0,v.av)] = some (vals [v]):=by rw [v.av_eq]; simp [vals,valsAv,v.av_eq]; rfl
  have ha2:appA T 61 (vals acc) (vals [v])=some (vals (acc++[v])):=AP61 (by simp; omega)
  have hc1:cell1M (vals (acc++[v]))=M.pure (vals (acc++[v])):=rfl
  have hw:IntKind.i64.wrap ((A.length:Int) + 1)=((A.length + 1:Nat):Int):=wrap_add1 (by omega)
  simp only [hb2,bnd_some,ha2,hc1,bnd_pure,bin_add,hw]
  have ih:=loop_rec IH own ns vs en es x5 x6 x7 x8 hes h8 B (A++[x]) (acc++[v]) s h' (by rw [← e]; simp) (by simp [ha]) (fun w hw=>by
   rcases List.mem_append.1 hw with k | k
   ·exact hr w k
   ·simp only [List.mem_singleton] at k; subst k; exact rv) hen Rs G2 (by omega) (hs.less f2)
  simp only [List.append_assoc,List.singleton_append,List.length_append,List.length_singleton] at ih
  exact ih
theorem t125 {p:List Mod} {nm:SNm} {n:Nat} (IH:EvOK p nm n):RecOK p nm n:=by
 intro own ns vs e m h R G hn hs he
 obtain ⟨l1,l2⟩:=expLim_names he
 unfold recordX
 have ha:=t165 e.names (by omega)
 have hcl:=t169 e.names (by omega)
 have hB:buildA T true 71 [(0,.int .i64 2),(2,strs e.names)] = some (.agg [.int .i64 2,.int .i64 0,strs e.names,.hn]):=rfl
 have hC:cellsNil 4 [3] (.agg [.int .i64 2,.int .i64 0,strs e.names,.hn])=M.pure (.agg [.int .i64 2,.int .i64 0,strs e.names,.hn]):=rfl
 rw [C125]
 simp only [S125,acells_exp,FA31_4,FA31_5,List.drop_succ_cons,List.drop_zero,LD28,LD29,LENE28,LENE29,bnd_some,bin_eql,ha,bnd_pure,guardM_pure1,nth_zero,nth_succ,pickA_and,bnd_must,mustM,bin_leq,hcl,hB,hC,acells_agg]
 have hsc:(AV.ip (acells (scopeAv own ns vs))) = .ip [.int .i64 own,strs ns,vals vs]:=rfl
 by_cases hl:e.names.length=e.args.length
 ·by_cases hasc:asc e.names=true
  ·have e1:((e.names.length:Int) == (e.args.length:Int)&&asc e.names)=true:=by simp [hl,hasc]
   simp only [hl,hasc,and_self,if_true]
   by_cases h8:e.args.length≤8
   ·have h8':decide ((e.args.length:Int)≤8)=true:=by simp; omega
    have e2:((e.args.length:Int) == (e.args.length:Int)&&true)=true:=by simp
    simp only [h8,h8',e2,if_true]
    have:=loop_rec IH own ns vs e.names e.args (.int .i64 0) (.int .i64 0) (.sl []) (.sl []) (fun x hx=>expLim_arg he hx) h8 e.args [] [] m h rfl rfl (fun v hv=>by cases hv) (by omega) R G hn hs
    simp only [List.nil_append] at this
    exact this
   ·have h8':decide ((e.args.length:Int)≤8)=false:=by simp; omega
    have e2:((e.args.length:Int) == (e.args.length:Int)&&true)=true:=by simp
    simp only [h8,h8',e2,if_true,Bool.false_eq_true,if_false]
    exact out_er R
  ·have e1:((e.names.length:Int) == (e.args.length:Int)&&false)=false:=by simp
   have hasc':asc e.names=false:=by simpa using hasc
   simp only [e1,hasc',and_false,Bool.false_eq_true,if_false]
   exact out_er R
 ·have e1:((e.names.length:Int) == (e.args.length:Int)&&asc e.names)=false:=by
   have:((e.names.length:Int) == (e.args.length:Int))=false:=by
    rw [beq_eq_false_iff_ne]
    omega
   rw [this]
   rfl
  simp only [e1,hl,false_and,Bool.false_eq_true,if_false]
  exact out_er R
end Go.Proofs.YtnipfhmghjdnmaaGreat

namespace Go.Proofs.YtnipfhmghjdnmaaGreat
open Go Go.Av Go.Av.Ap
theorem okEl_call3 (s t:Str) (v:AV) (h:okCell v=true):okEl 3 (.agg [.str s,.str t,v])=true:=by
 simp only [okEl,sizeA,acells,List.all_cons,List.all_nil]
 rw [h]
 rfl
theorem clone_args {p:List Mod} {nm:SNm} {tag:Nat→Nat} {dv cv sv:AV} {m:Ms} {h:Hp} (R:RepT (rowP p nm.told) nm tag dv cv sv m h) (l:List Val) (hb:l.length≤274877906944) :
  ∃ av h1 tag1,callW pg 100 [vals l] h = .ok av h1∧RepT (rowP p nm.told) nm tag1 dv cv sv m h1∧ArgR tag1 4 h1 l av∧okCell av=true:=by
 have e0:callW pg 100 [vals l] = cloneH T 61 (callW pg) [vals l]:=callW_other hOther rfl _
 have e1:=cloneH_vals (T:=T) (t:=61) rfl rfl rfl rfl rfl (by decide) (callW pg) l (show l.length * 64≤140737488355328 by omega) h
 rw [e0]
 by_cases hl:l = []
 ·rw [if_pos hl] at e1
  exact ⟨_,h,tag,e1,R,.inl (by rw [hl]),rfl⟩
 ·rw [if_neg hl] at e1
  refine ⟨_,_,_,e1,(R.more (valCells l) 4).1,.inr ⟨h.length,rfl,by simp,by simp⟩,rfl⟩
theorem push_call {p:List Mod} {nm:SNm} {tag:Nat→Nat} {dv cv sv:AV} {m:Ms} {h:Hp} (R:RepT (rowP p nm.told) nm tag dv cv sv m h) (c:Ap.Call) (av:AV) (ha:ArgR tag 4 h c.args av) (hok:okCell av=true) (hb:m.calls.length≤2000000) :
  ∃ cv' h1 h2,appH T 24 false cv (.sl [.agg [.str c.module,.str c.func,av]]) h = .ok cv' h1∧storeH T 24 (.hp 0 10) cv' h1 = .ok (.tup []) h2∧RepP p nm { m with calls:=m.calls++[c] } h2:=by
 obtain ⟨h1,cv',tag',e1,K,H,hc⟩:=push_row (T:=T) (t:=24) rfl rfl rfl rfl (by decide) rfl (by decide) (x:=.agg [.str c.module,.str c.func,av]) R.cs (fun h0=>by
  have:m.calls = []:=List.eq_nil_of_length_eq_zero h0
  rw [this]; rfl) (fun cs h=>h.ok.1) (okEl_call3 _ _ _ hok) (show (m.calls.length + 1) * 56≤140737488355328 by omega)
 have h0:=(K 0 _ R.r0 (by rw [R.t0]; decide)).1
 refine ⟨cv',h1,_,e1,storeH_ok rfl h0 (okCell_one hc).1 (show 10 + 1≤12 by decide) (by decide),?_⟩
 have hac:acells cv' = [cv']:=(okCell_one hc).2.1
 have:=R.pushCall (m':={ m with calls:=m.calls++[c] }) K ha H rfl rfl rfl id
 refine ⟨tag',dv,cv',sv,?_⟩
 rw [hac]
 exact this
theorem set_frames {p:List Mod} {nm:SNm} {m:Ms} {h:Hp} (R:RepP p nm m h) (x:Int):∃ h1,RepP p nm { m with frames:=x } h1∧(∀ f:AV→M AV,bnd (loadH T 3 (.hp 0 3)) f h=f (.int .i64 m.frames) h) ∧
  (∀ f:AV→M AV,bnd (storeH T 3 (.hp 0 3) (.int .i64 x)) f h=f (.tup []) h1):=by
 obtain ⟨tag,dv,cv,sv,R⟩:=R
 exact ⟨_,⟨tag,dv,cv,sv,R.set0 rfl rfl rfl id⟩,fun f=>bnd_ok (loadH_one rfl rfl R.r0 rfl),fun f=>bnd_ok (storeH_ok rfl R.r0 rfl (show 3 + 1≤12 by decide) (by decide))⟩
theorem loop_bind (f:Fun) (a:Int) (ps:List Fld) (l:List Val) (x6 x7 x8 x9:AV) (hb:ps.length≤274877906944) (hl:l.length=ps.length):∀ (B A:List Fld) (lb la:List Val),A++B=ps→la++lb=l→la.length=A.length →
  fixW (L102_0 (callW pg) fixW) [.hp 0 0,vals l,.ip (acells f.av),flds ps,.int .i64 ps.length,.int .i64 A.length,x6,x7,x8,x9,.int .i64 a,strs (A.map (·.1)),vals la] =
  fixW (L102_0 (callW pg) fixW) [.hp 0 0,vals l,.ip (acells f.av),flds ps,.int .i64 ps.length,.int .i64 ps.length,x6,x7,x8,x9,.int .i64 a,strs (ps.map (·.1)),vals l]
 | [],A,lb,la,e,e2,hla=>by
  simp only [List.append_nil] at e
  subst e
  have hz:lb = []:=by
   apply List.eq_nil_of_length_eq_zero
   have:(la++lb).length=l.length:=by rw [e2]
   rw [List.length_append] at this
   omega
  rw [hz,List.append_nil] at e2
  rw [e2]
 | x :: B,A,lb,la,e,e2,hla=>by
  have hll:A.length + (B.length + 1)=ps.length:=by rw [← e]; simp
  have h1:(A.length:Int) < (ps.length:Int):=by omega
  have hx:ps[A.length]'(by omega)=x:=by subst e; simp
  obtain ⟨v,lb',rfl⟩:∃ v lb',lb=v :: lb':=by
   cases lb with
   | nil =>
    have:(la++([]:List Val)).length=l.length:=by rw [e2]
    simp at this
    omega
   | cons v lb'=>exact ⟨v,lb',rfl⟩
  have hv:l[A.length]'(by omega)=v:=by
   subst e2
   rw [List.getElem_append_right (by omega)]
   simp [hla]
  have hi:=IX50 (l:=ps) (n:=(A.length:Int)) (by omega) h1
  rw [show ((A.length:Int)).toNat=A.length by omega,getElem!_pos ps A.length (by omega),hx] at hi
  have hj:=IX61 (l:=l) (n:=(A.length:Int)) (by omega) (by omega)
  rw [show ((A.length:Int)).toNat=A.length by omega,getElem!_pos l A.length (by omega),hv] at hj
  have hfl:loadA T 105 (.ip [.str x.1,.int .i64 x.2.kind,flds x.2.fields])=some (fldAv x):=by simp
  have hvl:loadA T 71 (.ip (acells v.av))=some v.av:=by simp
  have hw:IntKind.i64.wrap ((A.length:Int) + 1)=((A.length + 1:Nat):Int):=wrap_add1 (by omega)
  have hbd:=t124 a (A.map (·.1)) la x.1 v (by simp; omega) (by omega)
  have ih:=loop_bind f a ps l x6 x7 x8 x9 hb hl B (A++[x]) lb' (la++[v]) (by rw [← e]; simp) (by rw [← e2]; simp) (by simp [hla])
  simp only [List.map_append,List.map_cons,List.map_nil,List.length_append,List.length_singleton] at ih
  rw [← ih,FL102_0]
  simp only [L102_0,nth_zero,nth_succ,bin_lss,bnd_some,condM_bool,h1,decide_true,if_true,hi,hfl,cellsM_of (okEl_fld x),bnd_pure,acells_agg,acells_fld,FA105_0,List.drop_zero,LD9,hj,hvl,fold_scope,hbd,noPan_pure,cellsNil_of (okEl_scope _ _ _),acells_scope,bin_add,hw]
def EnterOK (p:List Mod) (nm:SNm) (n:Nat):Prop:=∀ (a:Int) (f:Fun) (l:List Val) m h,0≤a→a < p.length→f∈(p[a.toNat]?.getD default).funcs→l.length=f.params.length→(∀ v∈l,Rv v)→RepP p nm m h→GoodM p m→mu m < 1000000→m.fuel≤n →
 OutG p nm Val.av (enterX p (evalX p n) a f l m) (callW pg 102 [.hp 0 0,.int .i64 a,f.av,vals l] h)
end Go.Proofs.YtnipfhmghjdnmaaGreat

namespace Go.Proofs.YtnipfhmghjdnmaaGreat
open Go Go.Av Go.Av.Ap
theorem build_call (s t:Str) (v:AV) (h:okCell v=true):buildA T false 63 [(0,.str s),(1,.str t),(2,v)] = some (.agg [.str s,.str t,v]):=by
 have hc:=okCell_one h
 show (fillA _ _ [(0,.str s),(1,.str t),(2,v)]).map AV.agg=_
 simp only [fillA]
 have h2:=hc.2.2
 have h3:=hc.2.1
 cases v with
 | any=>cases h
 | agg _=>cases h
 | tup _=>cases h
 | _=>rfl
theorem buildS_call (x:AV) (hx:sizeA x=some 3):buildSliceA T 24 1 [(0,x)] = some (.sl [x]):=by
 have h1:buildSliceA T 24 1 [(0,x)] = (fillEls 3 (List.replicate 1 (.agg [.str [],.str [],.sl []])) [(0,x)]).map .sl:=rfl
 rw [h1]
 simp only [fillEls,hx,List.length_replicate]
 rfl
theorem enter_tail {p:List Mod} {nm:SNm} {n:Nat} (LB:LimB p) (IH:EvOK p nm n) (a:Int) (f:Fun) (l:List Val) (m:Ms) (h0:0≤a) (ha:a < p.length) (hf:f∈(p[a.toNat]?.getD default).funcs) (hl:l.length=f.params.length) (hr:∀ v∈l,Rv v) (G:GoodM p m) (hmu:mu m < 1000000) (hn:m.fuel≤n) :
  ∀ (m1:Ms) (h1:Hp),RepP p nm m1 h1→m1 = { m with calls:=if f.pub=true then m.calls++[⟨(p[a.toNat]?.getD default).name,f.name,l⟩] else m.calls } → m.frames < 60 →
   OutG p nm Val.av (((evalX p n a (f.params.map (·.1)) l f.body).bind fun v=>.upd (fun m=>{ m with frames:=m.frames - 1 }) (.ok v)) (entM p a f l m))
    (K102_0 (callW pg) fixW [.hp 0 0,.int .i64 a,vals l,.ip (acells f.av),.int .i64 0,.int .i64 0,.sl [],.sl []] h1):=by
 have hlt:a.toNat < p.length:=by omega
 have hmp:p[a.toNat]?.getD default∈p:=by rw [List.getElem?_eq_getElem hlt]; exact List.getElem_mem hlt
 obtain ⟨hbody,hparams⟩:=LB.body _ hmp f hf
 have hfb:=G.bud
 have hfu:=G.fuel
 have hfr:=G.fr
 intro m1 h1 R1 e1 h60
 have hB:buildA T false 145 [(0,.int .i64 a)] = some (scopeAv a [] []):=rfl
 have hcell:=cellsNil_of (okEl_scope a [] [])
 have hloop:=loop_bind f a f.params l (.int .i64 0) (.int .i64 0) (.sl []) (.sl []) hparams hl f.params [] l [] rfl rfl rfl
 have hw1:IntKind.i64.wrap (m.frames + 1)=m.frames + 1:=wrap_in (by omega) (by omega)
 obtain ⟨h2,R2,l2,s2⟩:=set_frames R1 (m.frames + 1)
 have e2:{ m1 with frames:=m.frames + 1 } = entM p a f l m:=by rw [e1]; rfl
 have hm1f:m1.frames=m.frames:=by rw [e1]
 rw [e2] at R2
 rw [hm1f] at l2
 have hld:loadA T 50 (.ip (flds f.params :: [.int .i64 f.result.kind,flds f.result.fields,.int .i64 f.effects,.int .i64 f.body.op,.int .i64 f.body.n,.str f.body.s,.str f.body.m,strs f.body.names,exps f.body.args]))=some (flds f.params):=rfl
 have hex:loadA T 31 (.ip [.int .i64 f.body.op,.int .i64 f.body.n,.str f.body.s,.str f.body.m,strs f.body.names,exps f.body.args])=some f.body.av:=by
  have:loadA T 31 (.ip (acells f.body.av))=some f.body.av:=by simp
  rwa [acells_exp] at this
 simp only [List.map_nil,List.length_nil] at hloop
 have hz:((0:Nat):Int)=0:=rfl
 rw [hz] at hloop
 have hm2:(if f.pub=true then m.calls++[(⟨(p[a.toNat]?.getD default).name,f.name,l⟩:Ap.Call)] else m.calls).length≤m.calls.length + 1:=by
  split
  ·simp
  ·omega
 have G2:GoodM p (entM p a f l m):=by
  refine ⟨⟨G.right.1,fun c hc=>?_⟩,?_,by simp only [entM]; omega,hfu,G.shape⟩
  ·simp only [entM] at hc
   split at hc
   ·rcases List.mem_append.1 hc with k | k
    ·exact G.right.2 c k
    ·simp only [List.mem_singleton] at k
     subst k
     exact hr
   ·exact G.right.2 c hc
  ·simp only [mu,entM] at hmu ⊢
   omega
 simp only [K102_0,nth_zero,nth_succ,hB,bnd_some,hcell,bnd_pure,acells_agg,acells_scope,acells_fun,FA90_2,List.drop_succ_cons,List.drop_zero,hld,LENE50] at hloop ⊢
 rw [show strs [] = strs [] from rfl] at hloop
 rw [hloop,FL102_0]
 simp only [L102_0,nth_zero,nth_succ,bin_lss,bnd_some,condM_bool,Int.lt_irrefl,decide_false,Bool.false_eq_true,if_false,nilChkA_hp,FH141_3,Nat.zero_add,l2,bin_add,hw1,s2,FA90_5,List.drop_succ_cons,List.drop_zero,hex,fold_scope]
 have hns:((f.params.map (·.1)).length:Int) + (entM p a f l m).fuel≤549755813888:=by
  simp only [List.length_map,entM]
  simp only [mu] at hfb
  omega
 refine out_bind (IH a (f.params.map (·.1)) l f.body _ _ R2 G2 hn ⟨ha,⟨by simp [hl],hr⟩,hns⟩ hbody) fun v s h3 hv R3=>?_
 obtain ⟨G3,_,_⟩:=G2.eval ⟨by simp [hl],hr⟩ hv
 obtain ⟨h4,R4,l4,s4⟩:=set_frames R3 (s.frames - 1)
 have hfr3:=G3.fr
 have hw2:IntKind.i64.wrap (s.frames - 1)=s.frames - 1:=wrap_in (by omega) (by omega)
 have hvl:loadA T 71 (.ip (acells v.av))=some v.av:=by simp
 simp only [cellsM_of (okEl_val v),bnd_pure,acells_agg,bnd_some,l4,bin_sub,hw2,s4,hvl]
 have e9:_=Av.R.ok v.av h4:=wrap4' v h4
 rw [e9]
 exact ⟨h4,rfl,R4⟩
theorem t102 {p:List Mod} {nm:SNm} {n:Nat} (LB:LimB p) (IH:EvOK p nm n):EnterOK p nm n:=by
 intro a f l m h h0 ha hf hl hr R G hmu hn
 have hlt:a.toNat < p.length:=by omega
 have hmp:p[a.toNat]?.getD default∈p:=by rw [List.getElem?_eq_getElem hlt]; exact List.getElem_mem hlt
 obtain ⟨hbody,hparams⟩:=LB.body _ hmp f hf
 have hfb:=G.bud
 have hfu:=G.fuel
 have hfr:=G.fr
 have tail:=enter_tail LB IH a f l m h0 ha hf hl hr G hmu hn
 simp only [acells_fun] at tail
 obtain ⟨tag,dv,cv,sv,R0⟩:=R
 have l3:∀ g:AV→M AV,bnd (loadH T 3 (.hp 0 3)) g h=g (.int .i64 m.frames) h:=fun g=>bnd_ok (loadH_one rfl rfl R0.r0 rfl)
 have lc:∀ g:AV→M AV,bnd (loadH T 24 (.hp 0 10)) g h=g cv h:=fun g=>bnd_ok (loadH_one rfl rfl R0.r0 rfl)
 have lm:∀ g:AV→M AV,bnd (loadH T 22 (.hp 0 0)) g h=g (mods p) h:=fun g=>bnd_ok (loadH_one rfl rfl R0.r0 (by rw [← pvOf_ne (t:=nm.told) (fun e=>by subst e; simp at hlt)]; rfl))
 generalize hcode:callW pg 102 [.hp 0 0,.int .i64 a,f.av,vals l] h=code
 rw [C102] at hcode
 simp -implicitDefEqProofs only [S102,nilChkA_hp,bnd_some,FH141_3,Nat.zero_add,l3,bin_lss,bnd_must,jn_def] at hcode
 by_cases h60:m.frames < 60
 ·rw [enterX_eq,if_pos h60]
  have hd:decide (m.frames < 60)=true:=by simpa using h60
  simp only [hd,mustM,if_true] at hcode
  simp -implicitDefEqProofs only [acells_fun,FA90_1,FA90_0,List.drop_succ_cons,List.drop_zero,LD4,LD9,bnd_some,condM_bool] at hcode
  by_cases hp:f.pub=true
  ·simp only [hp,if_true] at hcode tail
   have hi:=IX22 (l:=p) (n:=a) h0 ha
   rw [getElem!_pos p a.toNat hlt] at hi
   have e3:p[a.toNat]?.getD default=p[a.toNat]:=by rw [List.getElem?_eq_getElem hlt]; rfl
   obtain ⟨av,h1,tag1,c1,R1,A1,ok1⟩:=clone_args R0 l (by omega)
   obtain ⟨cv',h2,h3,p1,p2,R3⟩:=push_call R1 ⟨p[a.toNat].name,f.name,l⟩ av A1 ok1 (by simp only [mu] at hmu; omega)
   have hB:buildA T false 63 [(0,.str p[a.toNat].name),(1,.str f.name),(2,av)] = some (.agg [.str p[a.toNat].name,.str f.name,av]):=build_call _ _ _ ok1
   have hBS:=buildS_call (.agg [.str p[a.toNat].name,.str f.name,av]) rfl
   have lc1:∀ g:AV→M AV,bnd (loadH T 24 (.hp 0 10)) g h=g cv h:=lc
   simp -implicitDefEqProofs only [lc,lm,hi,acells_mod,FA55_0,FH141_0,FH141_4,FH75_3,List.drop_zero,LD9,bnd_some,Nat.zero_add,Nat.reduceAdd] at hcode
   rw [bnd_ok c1] at hcode
   simp only [hB,hBS,bnd_some] at hcode
   rw [bnd_ok p1] at hcode
   rw [bnd_ok p2] at hcode
   rw [← hcode]
   exact tail _ h3 R3 (by rw [e3]) h60
  ·simp only [hp,Bool.false_eq_true,if_false] at hcode tail
   rw [← hcode]
   exact tail m h ⟨tag,dv,cv,sv,R0⟩ rfl h60
 ·rw [enterX_eq,if_neg h60]
  have hd:decide (m.frames < 60)=false:=by simpa using h60
  simp only [hd,mustM,Bool.false_eq_true,if_false] at hcode
  rw [← hcode]
  exact ⟨h,rfl,tag,dv,cv,sv,R0⟩
end Go.Proofs.YtnipfhmghjdnmaaGreat

namespace Go.Proofs.YtnipfhmghjdnmaaGreat
open Go Go.Av Go.Av.Ap
theorem loop_call {p:List Mod} {nm:SNm} {n:Nat} (IH:EvOK p nm n) (IE:EnterOK p nm n) (own:Int) (ns:List Str) (vs:List Val) (at_:Int) (f:Fun) (es:List Exp) (x8 x9 x10 x11:AV) (ha:0≤at_) (hat:at_ < p.length) (hf:f∈(p[at_.toNat]?.getD default).funcs) (hes:∀ e∈es,expLim e) (h8:es.length≤274877906944) (hlen:es.length=f.params.length) :
  ∀ (B A:List Exp) (acc:List Val) (m:Ms) (h:Hp),A++B=es→acc.length=A.length→(∀ v∈acc,Rv v)→RepP p nm m h→GoodM p m→mu m < 1000000→m.fuel≤n→Sc p own ns vs m →
  OutG p nm Val.av ((listX (evalX p n own ns vs) B).bind (fun ws=>enterX p (evalX p n) at_ f (acc++ws)) m)
   (fixW (L127_0 (callW pg) fixW) [.hp 0 0,.ip (acells (scopeAv own ns vs)),.int .i64 at_,.ip (acells f.av),vals acc,exps es,.int .i64 es.length,.int .i64 A.length,x8,x9,x10,x11] h)
 | [],A,acc,m,h,e,hac,hr,R,G,hmu,hn,hs=>by
  simp only [List.append_nil] at e
  subst e
  have hfl:loadA T 90 (.ip (acells f.av))=some f.av:=by simp
  have IE':=IE at_ f acc m h ha hat hf (by omega) hr R G hmu hn
  generalize hcode:fixW (L127_0 (callW pg) fixW) [.hp 0 0,.ip (acells (scopeAv own ns vs)),.int .i64 at_,.ip (acells f.av),vals acc,exps A,.int .i64 A.length,.int .i64 A.length,x8,x9,x10,x11] h=code
  rw [FL127_0] at hcode
  simp -implicitDefEqProofs only [L127_0,nth_zero,nth_succ,bin_lss,bnd_some,condM_bool,Int.lt_irrefl,decide_false,Bool.false_eq_true,if_false,hfl] at hcode
  simp only [listX,xbind_ok,List.append_nil]
  rw [← hcode]
  exact out_wrap IE'
 | x :: B,A,acc,m,h,e,hac,hr,R,G,hmu,hn,hs=>by
  have hll:A.length + (B.length + 1)=es.length:=by rw [← e]; simp
  have h1:(A.length:Int) < (es.length:Int):=by omega
  have hx:es[A.length]'(by omega)=x:=by subst e; simp
  have hm:x∈es:=by rw [← e]; simp
  have hi:=IX29 (l:=es) (n:=(A.length:Int)) (by omega) h1
  rw [show ((A.length:Int)).toNat=A.length by omega,getElem!_pos es A.length (by omega),hx] at hi
  have hsc:loadA T 145 (.ip (acells (scopeAv own ns vs)))=some (scopeAv own ns vs):=rfl
  have hex:loadA T 31 (.ip (acells x.av))=some x.av:=by simp
  have hw:IntKind.i64.wrap ((A.length:Int) + 1)=((A.length + 1:Nat):Int):=wrap_add1 (by omega)
  generalize hcode:fixW (L127_0 (callW pg) fixW) [.hp 0 0,.ip (acells (scopeAv own ns vs)),.int .i64 at_,.ip (acells f.av),vals acc,exps es,.int .i64 es.length,.int .i64 A.length,x8,x9,x10,x11] h=code
  rw [FL127_0] at hcode
  simp -implicitDefEqProofs only [L127_0,nth_zero,nth_succ,bin_lss,bnd_some,condM_bool,h1,decide_true,if_true,hi,hex,cellsM_of (okEl_exp x),bnd_pure,hsc] at hcode
  have hex':loadA T 31 (.ip (acells (.agg (acells x.av))))=some x.av:=hex
  simp -implicitDefEqProofs only [hex',bnd_some] at hcode
  rw [← hcode]
  simp only [listX,xbind_assoc,xbind_ok]
  refine out_bind (IH own ns vs x m h R G hn hs (hes x hm)) fun v s h' hv Rs=>?_
  obtain ⟨G2,rv,f2⟩:=G.eval hs.right hv
  obtain ⟨t1,_⟩:=tq_eval n own ns vs x m v s G.fuel hv
  have hb2:buildSliceA T 61 1 [(0,v.av)] = some (vals [v]):=by rw [v.av_eq]; simp [vals,valsAv,v.av_eq]; rfl
  have ha2:appA T 61 (vals acc) (vals [v])=some (vals (acc++[v])):=AP61 (by simp; omega)
  have ih:=loop_call IH IE own ns vs at_ f es x8 x9 x10 x11 ha hat hf hes h8 hlen B (A++[x]) (acc++[v]) s h' (by rw [← e]; simp) (by simp [hac]) (fun w hw=>by
   rcases List.mem_append.1 hw with k | k
   ·exact hr w k
   ·simp only [List.mem_singleton] at k; subst k; exact rv) Rs G2 (by omega) (by omega) (hs.less f2)
  simp only [List.append_assoc,List.singleton_append,List.length_append,List.length_singleton] at ih
  simp only [hb2,bnd_some,ha2,bin_add,hw]
  exact ih
theorem cellsM_fun (f:Fun):cellsM 12 f.av=M.pure (.agg (acells f.av)):=cellsM_of (okEl_fun f)
theorem call_rest {p:List Mod} {nm:SNm} {n:Nat} (LB:LimB p) (IH:EvOK p nm n) (own:Int) (ns:List Str) (vs:List Val) (e:Exp) (at_:Int) (hat:at_ < p.length) (m:Ms) (h:Hp) (R:RepP p nm m h) (G:GoodM p m) (hmu:mu m < 1000000) (hn:m.fuel≤n) (hs:Sc p own ns vs m) (he:expLim e) (y1 y2 y3 y4:AV) :
  OutG p nm Val.av ((match funcX p at_ e.s with
   | none=>.er 12
   | some f=>if e.m = []∨f.pub=true then
     (if e.args.length=f.params.length then (listX (evalX p n own ns vs) e.args).bind fun l=>enterX p (evalX p n) at_ f l else .er 13)
    else .er 12:X Val) m)
   (K127_0 (callW pg) fixW [.hp 0 0,.ip (acells (scopeAv own ns vs)),.ip (acells e.av),.int .i64 at_,y1,y2,y3,y4] h):=by
 have IE:=t102 LB IH
 obtain ⟨l1,l2⟩:=expLim_names he
 have hfn:=t98 R LB.lim at_ hat e.s
 generalize hcode:K127_0 (callW pg) fixW [.hp 0 0,.ip (acells (scopeAv own ns vs)),.ip (acells e.av),.int .i64 at_,y1,y2,y3,y4] h=code
 simp -implicitDefEqProofs only [K127_0,nth_zero,nth_succ,acells_exp,FA31_2,FA31_3,FA31_5,List.drop_succ_cons,List.drop_zero,LD9,LD29,LENE29,bnd_some] at hcode
 rw [bnd_ok hfn] at hcode
 cases hf:funcX p at_ e.s with
 | none =>
  rw [hf] at hcode
  simp -implicitDefEqProofs only [funTup,extractA_tup,List.getElem?_cons_zero,List.getElem?_cons_succ,bnd_some,cellsM_fun,bnd_pure,guardM_ft,List.replicate,nth_zero,guardM_tup,pickA_false,bnd_must,mustM,Bool.false_eq_true,if_false] at hcode
  rw [← hcode]
  exact out_er R
 | some f =>
  rw [hf] at hcode
  obtain ⟨f1,f2,f3⟩:=funcX_some hf
  have hmp:p[at_.toNat]?.getD default∈p:=by rw [List.getElem?_eq_getElem f2]; exact List.getElem_mem f2
  obtain ⟨_,hparams⟩:=LB.body _ hmp f f3
  have hac:∀ f:Fun,acells (.agg (acells f.av))=acells f.av:=fun _=>rfl
  simp -implicitDefEqProofs only [funTup,extractA_tup,List.getElem?_cons_zero,List.getElem?_cons_succ,bnd_some,cellsM_fun,bnd_pure,guardM_take1,str_eql,nth_zero,hac] at hcode
  have hpub:loadA T 4 (.ip (List.drop 1 (acells f.av)))=some (.bool f.pub):=by simp
  have hpar:loadA T 50 (.ip (List.drop 2 (acells f.av)))=some (flds f.params):=by simp
  have hgu:guardM (.bool (e.m == [])) false 1 (M.pure [.bool f.pub])=M.pure [gv (e.m == []) false (.bool f.pub)]:=guardM_pure1 _ _ _
  have hpk:pickA (.bool (e.m == [])) (.bool true) (gv (e.m == []) false (.bool f.pub))=some (.bool ((e.m == [])||f.pub)):=pickA_or _ _
  simp -implicitDefEqProofs only [FA90_1,FA90_2,hpub,hpar,bnd_some,hgu,bnd_pure,nth_zero,hpk,pickA_true,bnd_must,LENE50,bin_eql] at hcode
  by_cases h1:e.m = []∨f.pub=true
  ·have h1':(e.m == []||f.pub)=true:=by
    simp only [Bool.or_eq_true,beq_iff_eq]
    exact h1
   simp only [h1',mustM,if_true] at hcode
   simp only [if_pos h1]
   by_cases h2:e.args.length=f.params.length
   ·have h2':((e.args.length:Int) == (f.params.length:Int))=true:=by simp [h2]
    simp only [h2',if_true] at hcode
    simp only [if_pos h2]
    rw [← hcode]
    have:=loop_call IH IE own ns vs at_ f e.args y1 y2 y3 y4 (by omega) hat f3 (fun x hx=>expLim_arg he hx) (by omega) h2 e.args [] [] m h rfl rfl (fun v hv=>by cases hv) R G hmu hn hs
    simp only [List.nil_append] at this
    exact this
   ·have h2':((e.args.length:Int) == (f.params.length:Int))=false:=by
     rw [beq_eq_false_iff_ne]
     omega
    simp only [h2',Bool.false_eq_true,if_false] at hcode
    simp only [if_neg h2]
    rw [← hcode]
    exact out_er R
  ·have h1':(e.m == []||f.pub)=false:=by
    rw [← Bool.not_eq_true]
    simp only [Bool.or_eq_true,beq_iff_eq]
    exact h1
   simp only [h1',mustM,Bool.false_eq_true,if_false] at hcode
   simp only [if_neg h1]
   rw [← hcode]
   exact out_er R
theorem t127 {p:List Mod} {nm:SNm} {n:Nat} (LB:LimB p) (IH:EvOK p nm n):CallOK p nm n:=by
 intro own ns vs e m h R G hmu hn hs he
 unfold callX
 have hown:loadA T 3 (.ip [.int .i64 own,strs ns,vals vs])=some (.int .i64 own):=rfl
 have hmd:=t97 R LB.lim e.m
 generalize hcode:callW pg 127 [.hp 0 0,scopeAv own ns vs,e.av] h=code
 rw [C127] at hcode
 simp -implicitDefEqProofs only [S127,acells_scope,acells_exp,FA145_0,FA31_3,List.drop_succ_cons,List.drop_zero,hown,LD9,bnd_some,jn_def,str_neq,condM_bool] at hcode
 by_cases h0:e.m = []
 ·have h0':(!(e.m == []))=false:=by simp [h0]
  simp only [h0',Bool.false_eq_true,if_false] at hcode
  simp only [if_pos h0]
  rw [← hcode]
  have:=call_rest LB IH own ns vs e own hs.own m h R G hmu hn hs he (.int .i64 0) (.int .i64 0) (.sl []) (.sl [])
  simp only [acells_scope,acells_exp] at this
  exact this
 ·have h0':(!(e.m == []))=true:=by simp [h0]
  simp only [h0',if_true] at hcode
  rw [bnd_ok hmd] at hcode
  simp only [if_neg h0]
  rw [← hcode]
  have hlt:modAt p e.m < p.length:=by
   rcases idxAt_lt (fun (x:Mod)=>x.name == e.m) p 0 with k | k
   ·show idxAt _ p 0 < _
    rw [k]; omega
   ·show idxAt _ p 0 < _
    omega
  have:=call_rest LB IH own ns vs e (modAt p e.m) hlt m h R G hmu hn hs he (.int .i64 0) (.int .i64 0) (.sl []) (.sl [])
  simp only [acells_scope,acells_exp] at this
  exact this
end Go.Proofs.YtnipfhmghjdnmaaGreat

namespace Go.Proofs.YtnipfhmghjdnmaaGreat
open Go Go.Av Go.Av.Ap
theorem ixh {t e:Nat} {ti ei:TI} (ht:T t=some ti) (hk:ti.kind = .slice e) (he:T e=some ei) {l off len sz:Nat} {ag:Bool} {n:Int} (h0:0≤n) (h1:n < len):indexAddrA T t (.hs l off len sz ag) (.int .i64 n)=some (.hp l (off + n.toNat * ei.size)):=by
 simp [indexAddrA,ht,hk,he,h0,h1]
theorem push_deed {p:List Mod} {nm:SNm} {tag:Nat→Nat} {dv cv sv:AV} {m:Ms} {h:Hp} (R:RepT (rowP p nm.told) nm tag dv cv sv m h) (d:Deed) (hb:m.deeds.length≤2000000) :
  ∃ dv' h1 h2,appH T 72 false dv (.sl [d.av]) h = .ok dv' h1∧storeH T 72 (.hp 0 9) dv' h1 = .ok (.tup []) h2∧RepP p nm { m with deeds:=m.deeds++[d] } h2:=by
 obtain ⟨h1,dv',tag',e1,K,H,hc⟩:=push_row (T:=T) (t:=72) rfl rfl rfl rfl (by decide) rfl (by decide) (x:=d.av) R.ds (fun h0=>by
  have:m.deeds = []:=List.eq_nil_of_length_eq_zero h0
  rw [this]; rfl) (fun cs h=>by rw [h]; exact deedCells_ok _) (okEl_deed d) (show (m.deeds.length + 1) * 24≤140737488355328 by omega)
 have h0:=(K 0 _ R.r0 (by rw [R.t0]; decide)).1
 refine ⟨dv',h1,_,e1,storeH_ok rfl h0 (okCell_one hc).1 (show 9 + 1≤12 by decide) (by decide),?_⟩
 have hac:acells dv' = [dv']:=(okCell_one hc).2.1
 have:=R.pushDeed (m':={ m with deeds:=m.deeds++[d] }) K H rfl rfl rfl id
 refine ⟨tag',dv',cv,sv,?_⟩
 rw [hac]
 exact this
theorem act_rest {p:List Mod} {nm:SNm} {m:Ms} {h:Hp} (R:RepP p nm m h) (hb:m.deeds.length≤2000000) (e:Exp) (v:Val) (n:Int) (x1 x2 x3 x4:AV) :
  OutG p nm Val.av (X.ok (numV n) { m with deeds:=m.deeds++[⟨e.n,v.n,n⟩] }) (K128_0 (callW pg) fixW [.hp 0 0,.ip (acells e.av),.ip (acells v.av),.int .i64 n,x1,x2,x3,x4] h):=by
 obtain ⟨tag,dv,cv,sv,R0⟩:=R
 obtain ⟨dv',h1,h2,e1,e2,R2⟩:=push_deed R0 ⟨e.n,v.n,n⟩ hb
 have hB:buildA T false 80 [(0,.int .i64 e.n),(1,.int .i64 v.n),(2,.int .i64 n)] = some (Deed.av ⟨e.n,v.n,n⟩):=rfl
 have hBS:buildSliceA T 72 1 [(0,Deed.av ⟨e.n,v.n,n⟩)] = some (.sl [Deed.av ⟨e.n,v.n,n⟩]):=rfl
 have ld:∀ g:AV→M AV,bnd (loadH T 72 (.hp 0 9)) g h=g dv h:=fun g=>bnd_ok (loadH_one rfl rfl R0.r0 rfl)
 generalize hcode:K128_0 (callW pg) fixW [.hp 0 0,.ip (acells e.av),.ip (acells v.av),.int .i64 n,x1,x2,x3,x4] h=code
 simp -implicitDefEqProofs only [K128_0,nth_zero,nth_succ,nilChkA_hp,bnd_some,FH141_4,FH75_2,Nat.zero_add,Nat.reduceAdd,ld,acells_exp,FA31_1,List.drop_succ_cons,List.drop_zero,LD3,acells_val,FA71_1,hB,hBS] at hcode
 rw [bnd_ok e1] at hcode
 rw [bnd_ok e2] at hcode
 simp -implicitDefEqProofs only [t120,bnd_pure] at hcode
 rw [wrap4'] at hcode
 rw [← hcode]
 exact out_pure R2
theorem set_world {p:List Mod} {nm:SNm} {m:Ms} {h:Hp} (R:RepP p nm m h) (w:List Int) (hw0:m.world = []→w = []):∃ h1,(m.world≠[]→RepP p nm { m with world:=w } h1)∧(∀ f:AV→M AV,bnd (loadH T 45 (.hp 0 1)) f h=f (wvOf nm.told m.world) h) ∧
  (m.world≠[]→∀ f:AV→M AV,bnd (storeH T 45 (.hp 0 1) (ints w)) f h=f (.tup []) h1):=by
 obtain ⟨tag,dv,cv,sv,R⟩:=R
 refine ⟨h.set 0 (setCells (rowP p nm.told m dv cv sv) 1 (acells (ints w))),fun hne=>⟨tag,dv,cv,sv,?_⟩,fun f=>bnd_ok (loadH_one rfl rfl R.r0 rfl),fun _ f=>bnd_ok (storeH_ok rfl R.r0 rfl (show 1 + 1≤12 by decide) (by decide))⟩
 have ht:nm.told=false:=by
  cases ht:nm.told with
  | false=>rfl
  | true=>exact absurd (R.wok ht) hne
 have e:setCells (rowP p nm.told m dv cv sv) 1 (acells (ints w))=rowP p nm.told { m with world:=w } dv cv sv:=by
  simp only [ht]
  rfl
 rw [e]
 exact R.set0 rfl rfl rfl hw0
theorem t128 {p:List Mod} {nm:SNm} {n:Nat} (LB:LimB p) (IH:EvOK p nm n):WorldOK p nm n:=by
 intro own ns vs e m h hop hcn R G hmu hn hs he
 obtain ⟨l1,l2⟩:=expLim_names he
 have hscl:loadA T 145 (.ip [.int .i64 own,strs ns,vals vs])=some (scopeAv own ns vs):=rfl
 have hown:loadA T 3 (.ip [.int .i64 own,strs ns,vals vs])=some (.int .i64 own):=rfl
 generalize hcode:callW pg 128 [.hp 0 0,scopeAv own ns vs,e.av] h=code
 rw [C128] at hcode
 obtain ⟨op,en,es,em,en2,ea⟩:=e
 simp only [op_mk] at hop
 unfold CntOK at hcn
 simp only [op_mk,args_mk] at hcn
 have hlen:op=16∨op=18→∃ a,ea = [a]:=by
  intro h
  apply len1
  rcases h with rfl | rfl
  ·simp [argsN] at hcn; omega
  ·simp [argsN] at hcn; omega
 by_cases h16:op=16
 ·obtain ⟨a,rfl⟩:=hlen (.inl h16)
  subst h16
  have ha:expLim a:=expLim_arg he (by simp)
  simp -implicitDefEqProofs only [S128,acells_scope,acells_exp,op_mk,n_mk,s_mk,m_mk,names_mk,args_mk,FA31_0,FA31_1,FA31_5,List.drop_succ_cons,List.drop_zero,LD3,LD29,bnd_some,bin_eql,beq_self_eq_true,condM_bool,if_true,hscl,ixe0] at hcode
  have hex:loadA T 31 (.ip [.int .i64 a.op,.int .i64 a.n,.str a.s,.str a.m,strs a.names,exps a.args])=some a.av:=by
   have:loadA T 31 (.ip (acells a.av))=some a.av:=by simp
   rwa [acells_exp] at this
  simp -implicitDefEqProofs only [hex,bnd_some] at hcode
  rw [← hcode]
  simp only [worldX,op_mk,actX]
  have e0:([a]:List Exp)[0]! = a:=rfl
  simp only [args_mk,e0]
  refine out_bind (IH own ns vs a _ _ R G hn hs ha) fun v s1 h2 hv R2=>?_
  obtain ⟨G2,rv,f2⟩:=G.eval hs.right hv
  generalize hcode2:bnd (cellsM 4 v.av) _ h2=code2
  simp -implicitDefEqProofs only [cellsM_of (okEl_val v),bnd_pure,acells_agg,acells_val,FA71_0,List.drop_zero,LD3,bnd_some,bin_eql,bnd_must,guardM_pure1,nth_zero,pickA_or] at hcode2
  by_cases hk:v.kind=0
  ·have hk':(v.kind == 0)=true:=by simp [hk]
   simp only [hk',mustM,if_true] at hcode2
   simp only [if_pos hk]
   by_cases hn4':(Exp.mk 16 en es em en2 [a]).n=1∨(Exp.mk 16 en es em en2 [a]).n=2∨(Exp.mk 16 en es em en2 [a]).n=4∨(Exp.mk 16 en es em en2 [a]).n=8
   ·have hn4:en=1∨en=2∨en=4∨en=8:=hn4'
    have hn':(en == 1||en == 2||en == 4||en == 8)=true:=by
     simp only [Bool.or_eq_true,beq_iff_eq]
     omega
    simp only [hn',if_true] at hcode2
    simp only [if_pos hn4']
    obtain ⟨h3,R3,lw,sw⟩:=set_world R2 s1.world.tail (fun h=>by rw [h]; rfl)
    have hmu2:=(tq_eval n own ns vs a m v s1 G.fuel hv).1
    have hdl:s1.deeds.length≤2000000:=by
     have:=G2.fuel
     simp only [mu] at hmu2 hmu
     omega
    show OutG p nm Val.av (X.ok (numV (s1.world.headD 0)) { s1 with world:=s1.world.tail,deeds:=s1.deeds++[⟨en,v.n,s1.world.headD 0⟩] }) code2
    have lenw:lenA T 45 (wvOf nm.told s1.world)=some (.int .i64 s1.world.length):=by
     unfold wvOf
     split
     ·rename_i ht
      obtain ⟨_,_,_,_,R2'⟩:=R2
      rw [R2'.wok ht]
      rfl
     ·exact LENE45 _
    simp -implicitDefEqProofs only [jn_def,nilChkA_hp,bnd_some,FH141_1,Nat.zero_add,lw,lenw,bnd_some,bin_gtr,condM_bool] at hcode2
    cases hwd:s1.world with
    | nil =>
     rw [hwd] at hcode2
     simp only [List.length_nil,show decide ((0:Int) < ((0:Nat):Int))=false by decide,Bool.false_eq_true,if_false] at hcode2
     have:=act_rest R2 hdl (.mk 16 en es em en2 [a]) v 0 (.int .i64 0) (.int .i64 0) (.sl []) (.sl [])
     simp only [acells_exp,acells_val,op_mk,n_mk,s_mk,m_mk,names_mk,args_mk] at this
     rw [hcode2] at this
     have e5:({ s1 with deeds:=s1.deeds++[⟨en,v.n,0⟩] }:Ms) = { s1 with world:=([]:List Int).tail,deeds:=s1.deeds++[⟨en,v.n,([]:List Int).headD 0⟩] }:=by
      cases s1
      simp only at hwd
      subst hwd
      rfl
     rw [e5] at this
     exact this
    | cons x wl =>
     have hd:decide ((0:Int) < (((x :: wl).length:Nat):Int))=true:=by simp <;> omega
     have hne:s1.world≠[]:=by rw [hwd]; simp
     have sw:=sw hne
     have R3:=R3 hne
     have hwv:wvOf nm.told s1.world=ints s1.world:=by
      unfold wvOf
      rw [if_neg]
      intro ht
      obtain ⟨_,_,_,_,R2'⟩:=R2
      exact hne (R2'.wok ht)
     rw [hwv] at lw
     rw [hwd] at hcode2 sw R3 lw
     have hix:indexAddrA T 45 (ints (x :: wl)) (.int .i64 0)=some (.ip [.int .i64 x]):=by
      have:=IX45 (l:=x :: wl) (n:=0) (by omega) (by simp <;> omega)
      simpa using this
     have hsl:sliceA T 45 (ints (x :: wl)) (some (.int .i64 1)) none none=some (ints wl):=by
      have:=sliceA_lo (T:=T) (t:=45) (e:=3) rfl rfl rfl ((x :: wl).map (AV.int .i64)) (by exact okSz_ints _) (n:=1) (by omega) (by simp <;> omega)
      simpa [ints] using this
     simp only [List.tail_cons] at sw R3
     simp -implicitDefEqProofs only [hd,if_true,lw,hix,bnd_some,LD3,hsl,sw] at hcode2
     have:=act_rest R3 hdl (.mk 16 en es em en2 [a]) v x (.int .i64 0) (.int .i64 0) (.sl []) (.sl [])
     simp only [acells_exp,acells_val,op_mk,n_mk,s_mk,m_mk,names_mk,args_mk] at this
     rw [hcode2] at this
     exact this
   ·have hn4:¬ (en=1∨en=2∨en=4∨en=8):=hn4'
    have hn':(en == 1||en == 2||en == 4||en == 8)=false:=by
     rw [← Bool.not_eq_true]
     simp only [Bool.or_eq_true,beq_iff_eq]
     omega
    simp only [hn',Bool.false_eq_true,if_false] at hcode2
    simp only [if_neg hn4']
    rw [← hcode2]
    exact out_er R2
  ·have hk':(v.kind == 0)=false:=by simpa using hk
   simp only [hk',mustM,Bool.false_eq_true,if_false] at hcode2
   simp only [if_neg hk]
   rw [← hcode2]
   exact out_er R2
 have h16':((op:Int) == 16)=false:=by simpa using h16
 have h16x:¬ ((Exp.mk op en es em en2 ea).op=16):=h16
 unfold worldX
 simp only [if_neg h16x]
 unfold varX
 simp -implicitDefEqProofs only [S128,acells_scope,acells_exp,op_mk,n_mk,s_mk,m_mk,names_mk,args_mk,FA145_0,FA31_0,FA31_1,FA31_5,List.drop_succ_cons,List.drop_zero,LD3,LD29,bnd_some,bin_eql,h16',Bool.false_eq_true,condM_bool,if_false,hown,hscl,bin_geq,bnd_must,jn_def] at hcode
 by_cases ho:own < 0
 ·have ho':decide (0≤own)=false:=by simp; omega
  simp only [ho',mustM,Bool.false_eq_true,if_false] at hcode
  simp only [if_pos ho]
  rw [← hcode]
  exact out_er R
 have ho':decide (0≤own)=true:=by simp; omega
 simp only [ho',mustM,if_true] at hcode
 simp only [if_neg ho]
 have hol:=hs.own
 have hlt:own.toNat < p.length:=by omega
 have hix:=IX22 (l:=p) (n:=own) (by omega) hol
 rw [getElem!_pos p own.toNat hlt] at hix
 have e3:p[own.toNat]?.getD default=p[own.toNat]:=by rw [List.getElem?_eq_getElem hlt]; rfl
 have hvl:=(LB.lim.funcsAt own.toNat).2
 rw [e3] at hvl ⊢
 have hff:=t171' p[own.toNat].vars hvl (.mk op en es em en2 ea)
 simp only [acells_exp,op_mk,n_mk,s_mk,m_mk,names_mk,args_mk] at hff
 have Rk:=R
 obtain ⟨tag,dv,cv,sv,R0⟩:=R
 have lm:∀ g:AV→M AV,bnd (loadH T 22 (.hp 0 0)) g h=g (mods p) h:=fun g=>bnd_ok (loadH_one rfl rfl R0.r0 (by rw [← pvOf_ne (t:=nm.told) (fun e=>by subst e; simp at hlt)]; rfl))
 have lsv:∀ g:AV→M AV,bnd (loadH T 73 (.hp 0 11)) g h=g nm.sv h:=fun g=>bnd_ok (loadH_one rfl rfl R0.r0 (by rw [← R0.sve]; rfl))
 simp -implicitDefEqProofs only [nilChkA_hp,bnd_some,FH141_0,FH141_4,FH75_4,Nat.zero_add,Nat.reduceAdd,lm,hix,acells_mod,FA55_2,List.drop_succ_cons,List.drop_zero,LD50,hff,noPan_pure,bnd_pure,bin_geq,bnd_must] at hcode
 by_cases hi:fldAt p[own.toNat].vars (Exp.mk op en es em en2 ea).s < 0
 ·have hi':decide (0≤fldAt p[own.toNat].vars es)=false:=by
   have:fldAt p[own.toNat].vars es < 0:=hi
   simp; omega
  simp only [hi',mustM,Bool.false_eq_true,if_false] at hcode
  simp only [if_pos hi]
  rw [← hcode]
  exact out_er Rk
 have hi0:0≤fldAt p[own.toNat].vars es:=by
  have:¬ fldAt p[own.toNat].vars es < 0:=hi
  omega
 have hi':decide (0≤fldAt p[own.toNat].vars es)=true:=by simp; omega
 simp only [hi',mustM,if_true,lsv] at hcode
 simp only [if_neg hi]
 have hil:fldAt p[own.toNat].vars es < p[own.toNat].vars.length:=by
  rcases idxAt_lt (fun (x:Fld)=>x.1 == es) p[own.toNat].vars 0 with k | k
  ·have:fldAt p[own.toNat].vars es = -1:=k
   omega
  ·have:fldAt p[own.toNat].vars es=idxAt (fun (x:Fld)=>x.1 == es) p[own.toNat].vars 0:=rfl
   omega
 obtain ⟨l,hl1,hl2⟩:=G.shape own.toNat _ (List.getElem?_eq_getElem hlt)
 have hne:l≠[]:=fun e=>by rw [e] at hl2; simp at hl2; omega
 have hsl:own.toNat < m.state.length:=(List.getElem?_eq_some_iff.1 hl1).1
 obtain ⟨q,r,v1,v2,v3,v4,v5,v6⟩:=R0.var (fun _=>rfl) hl1 hne
 have hx1:indexAddrA T 73 nm.sv (.int .i64 own)=some (.hp q (own.toNat * 2)):=by
  rw [v1]
  have:=ixh (t:=73) rfl rfl rfl (l:=q) (off:=0) (len:=m.state.length) (sz:=2) (ag:=true) (n:=own) (by omega) (by omega)
  rw [this]
  simp
 have lv:∀ g:AV→M AV,bnd (loadH T 61 (.hp q (own.toNat * 2 + 1))) g h=g (.hs r 0 l.length 4 true) h:=fun g=>bnd_ok (loadH_one rfl rfl v2 v3)
 simp -implicitDefEqProofs only [hx1,bnd_some,FH155_1,lv] at hcode
 generalize hI:fldAt p[own.toNat].vars es=I at *
 have hI2:fldAt p[own.toNat].vars (Exp.mk op en es em en2 ea).s=I:=hI
 rw [hI2]
 have hx2:indexAddrA T 61 (.hs r 0 l.length 4 true) (.int .i64 I)=some (.hp r (I.toNat * 4)):=by
  have:=ixh (t:=61) rfl rfl rfl (l:=r) (off:=0) (len:=l.length) (sz:=4) (ag:=true) (n:=I) (by omega) (by omega)
  rw [this]
  simp
 have hk:I.toNat < l.length:=by omega
 by_cases h18:op=18
 ·have h18x:(Exp.mk op en es em en2 ea).op=18:=h18
  simp only [if_pos h18x]
  obtain ⟨a,rfl⟩:=hlen (.inr h18)
  have ha:expLim a:=expLim_arg he (by simp)
  have hb18:(op == 18)=true:=by simp [h18]
  have hex:loadA T 31 (.ip (acells a.av))=some a.av:=by simp
  have e0:(Exp.mk op en es em en2 [a]).args[0]! = a:=rfl
  simp -implicitDefEqProofs only [hb18,if_true,ixe0,bnd_some,hex] at hcode
  rw [← hcode,e0]
  refine out_bind (IH own ns vs a _ _ Rk G hn hs ha) fun v s1 h2 hv R2=>?_
  obtain ⟨G2,rv,f2⟩:=G.eval hs.right hv
  obtain ⟨tag2,dv2,cv2,sv2,R20⟩:=R2
  obtain ⟨l',hl1',hl2'⟩:=G2.shape own.toNat _ (List.getElem?_eq_getElem hlt)
  have hne':l'≠[]:=fun e=>by rw [e] at hl2'; simp at hl2'; omega
  obtain ⟨q',r',w1,w2,w3,w4,w5,w6⟩:=R20.var (fun _=>rfl) hl1' hne'
  have hll:l'.length=l.length:=by omega
  have hrr:r'=r:=by
   rw [v3] at w3
   simp only [Option.some.injEq,AV.hs.injEq] at w3
   exact w3.1.symm
  subst hrr
  have hst:storeH T 71 (.hp r' (I.toNat * 4)) v.av h2 = .ok (.tup []) (h2.set r' (valCells (l'.set I.toNat v))):=by
   have:=storeH_ok (T:=T) (t:=71) rfl w5 (v:=v.av) (k:=I.toNat * 4) (okEl_val v) (by rw [valCells_len]; show I.toNat * 4 + 4≤_; omega) (by decide)
   rw [this,valCells_set (by omega)]
  have R3:=w6 I.toNat v (by omega)
  have hset:((s1.state[own.toNat]?.getD []).set I.toNat v)=l'.set I.toNat v:=by rw [hl1']; rfl
  have hld2:loadH T 71 (.hp r' (I.toNat * 4)) (h2.set r' (valCells (l'.set I.toNat v))) = .ok v.av (h2.set r' (valCells (l'.set I.toNat v))):=by
   have hlt2:r' < h2.length:=(List.getElem?_eq_some_iff.1 w5).1
   have:=loadH_agg (T:=T) (t:=71) rfl rfl (h:=h2.set r' (valCells (l'.set I.toNat v))) (l:=r') (k:=I.toNat * 4) (List.getElem?_set_self hlt2) (by rw [valCells_len,List.length_set]; show I.toNat * 4 + 4≤_; omega)
   rw [this]
   have hg:=valCells_get (l:=l'.set I.toNat v) (k:=I.toNat) (by simp; omega)
   show Av.R.ok (AV.agg (((valCells (l'.set I.toNat v)).drop (I.toNat * 4)).take 4)) _=_
   rw [hg,List.getElem_set_self]
   rw [Val.av_eq]
   rfl
  generalize hcode2:bnd (lft (indexAddrA T 61 (.hs r' 0 l.length 4 true) (.int .i64 I))) _ h2=code2
  simp -implicitDefEqProofs only [hx2,bnd_some] at hcode2
  rw [bnd_ok hst] at hcode2
  simp -implicitDefEqProofs only [K128_1,nth_zero,nth_succ,hx2,bnd_some] at hcode2
  rw [bnd_ok hld2,wrap4'] at hcode2
  rw [← hcode2]
  exact ⟨_,rfl,tag2,dv2,cv2,sv2,R3⟩
 ·have h18x:¬ ((Exp.mk op en es em en2 ea).op=18):=h18
  have hb18:(op == 18)=false:=by simpa using h18
  have hld2:loadH T 71 (.hp r (I.toNat * 4)) h = .ok (l[I.toNat]).av h:=by
   have:=loadH_agg (T:=T) (t:=71) rfl rfl (h:=h) (l:=r) (k:=I.toNat * 4) v5 (by rw [valCells_len]; show I.toNat * 4 + 4≤_; omega)
   rw [this]
   have hg:=valCells_get (l:=l) (k:=I.toNat) hk
   show Av.R.ok (AV.agg (((valCells l).drop (I.toNat * 4)).take 4)) _=_
   rw [hg,Val.av_eq]
   rfl
  simp only [if_neg h18x]
  simp -implicitDefEqProofs only [hb18,Bool.false_eq_true,if_false,K128_1,nth_zero,nth_succ,hx2,bnd_some] at hcode
  rw [bnd_ok hld2,wrap4'] at hcode
  rw [← hcode]
  have hgs:getSt m.state own.toNat I.toNat=l[I.toNat]:=by
   simp [getSt,List.getD_eq_getElem?_getD,hl1,hk]
  show OutG p nm Val.av (X.ok (getSt m.state own.toNat I.toNat) m) _
  rw [hgs]
  exact out_pure Rk
end Go.Proofs.YtnipfhmghjdnmaaGreat

namespace Go.Proofs.YtnipfhmghjdnmaaGreat
open Go Go.Av Go.Av.Ap
theorem evOK {p:List Mod} {nm:SNm} (LB:LimB p):∀ n,EvOK p nm n
 | 0=>fun own ns vs e m h R G hn hs he=>⟨h,ev_low R (by omega) _ e,R⟩
 | n + 1=>by
  have IH:=evOK (nm:=nm) LB n
  exact eval_step IH (t125 IH) (t127 LB IH) (t128 LB IH)
end Go.Proofs.YtnipfhmghjdnmaaGreat

namespace Go.Proofs.YtnipfhmghjdnmaaGreat
open Go Go.Av Go.Av.Ap
theorem isoP_ok {m:M AV} {r:AV} {h':Hp} (h1:m [] = .ok r h') (h2:∀ g,cl g r=r):isoP m=M.pure r:=by
 funext h
 unfold isoP
 rw [h1]
 simp only [M.pure]
 have:frz 6 h' r=r:=h2 _
 rw [this]
theorem vals_any (l:List Val):(l.any fun v=>!fitsP 4 v) = !(l.all (fitsP 4)):=by
 induction l with
 | nil=>rfl
 | cons v l ih=>simp only [List.any_cons,List.all_cons,ih]; cases fitsP 4 v <;> simp
theorem okv (v:Val):loadA T 71 (.ip (acells v.av))=some v.av:=by simp
theorem t86 (v:Val) (hv:v.sz≤4611686018427387904):callW pg 86 [v.av] = M.pure (.bool !fitsP 4 v):=by
 rw [C86]
 simp only [S86,cl_val,okv,bnd_some,t87 v hv,bnd_pure,unA_not]
 exact isoP_pure fun g=>rfl
theorem any_not (k:Nat) (hk:∀ v:Val,v.sz≤4611686018427387904→callW pg k [v.av] = M.pure (.bool !fitsP 4 v)) (l:List Val) (hl:valsSz l≤4611686018427387904):callW pg 85 [vals l,.fn (.func k) [] []] = M.pure (.bool !(l.all (fitsP 4))):=by
 have:=t85 (.fn (.func k) [] []) (fun v=>!fitsP 4 v) l (Nat.le_trans (valsSz_len l) hl) (fun g=>rfl) (fun v hv=>hk v (Nat.le_trans (valsSz_mem hv) hl))
 rw [this,vals_any]
theorem t88 (f:AV) (h:Hp):callW pg 88 [f] h=tryP 69 .i64 (.agg [.int .i64 0,.int .i64 0,.sl [],.sl []]) (callV (callW pg) f [] h):=by
 have e:callW pg 88 [f] = tryE 69 .i64 (.agg [.int .i64 0,.int .i64 0,.sl [],.sl []]) (callW pg) [f]:=callW_other hOther rfl _
 rw [e]
 rfl
def nm0:SNm:=⟨[],.hn,[],true⟩
theorem limB_nil:LimB []:=⟨⟨by simp,fun m hm=>by cases hm⟩,fun m hm=>by cases hm⟩
theorem rep_exp:RepP [] nm0 (startM [] 100000 []) [[.hn,.hn,.int .i64 100000,.int .i64 0,.int .i64 0,.int .i64 0,.int .i64 0,.hn,.hn,.hn,.hn,.hn]] :=
 ⟨fun _=>0,.hn,.hn,.hn,rfl,rfl,.inl ⟨rfl,rfl⟩,.inl ⟨rfl,rfl⟩,.inl ⟨rfl,rfl⟩,rfl,fun _=>rfl⟩
theorem good_exp:GoodM [] (startM [] 100000 []):=⟨⟨fun l hl=>by simp [startM] at hl,fun c hc=>by simp [startM] at hc⟩,by simp [mu,startM],by simp [startM],by simp [startM],fun i x hx=>by simp at hx⟩
def pairOf:Rs Val→AV
 | .ok v _=>.tup [v.av,.int .i64 0]
 | .er e _=>.tup [Val.av default,.int .i64 e]
theorem cl_pair (g) (v:Val) (e:Int):cl g (.tup [v.av,.int .i64 e]) = .tup [v.av,.int .i64 e]:=by simp [cl,cls]
theorem t51 (e:Exp) (ns:List Str) (vs:List Val) (he:expLim e) (hn:ns.length≤274877906944) (hv:valsSz vs≤4611686018427387904):callW pg 51 [e.av,strs ns,vals vs] = M.pure (pairOf (expX e ns vs)):=by
 have ha:=any_not 86 t86 vs hv
 have hl1:loadA T 28 (.ip (acells (strs ns)))=some (strs ns):=rfl
 have hl2:loadA T 61 (.ip (acells (vals vs)))=some (vals vs):=rfl
 have hB:buildA T true 141 [(2,.int .i64 100000)] = some (.agg [.hn,.hn,.int .i64 100000,.int .i64 0,.int .i64 0,.int .i64 0,.int .i64 0,.hn,.hn,.hn,.hn,.hn]):=rfl
 have hZ:buildA T false 71 [] = some (Val.av default):=rfl
 have hcl:∀ h:AV→M AV,bnd (newH [.hn,.hn,.int .i64 100000,.int .i64 0,.int .i64 0,.int .i64 0,.int .i64 0,.hn,.hn,.hn,.hn,.hn]) h [] = h (.hp 0 0) [[.hn,.hn,.int .i64 100000,.int .i64 0,.int .i64 0,.int .i64 0,.int .i64 0,.hn,.hn,.hn,.hn,.hn]]:=fun h=>rfl
 rw [C51,cl_strs,cl_vals,cl_exp]
 unfold expX
 by_cases hr:ns.length=vs.length∧vs.all (fitsP 4)=true
 ·rw [if_pos hr]
  have hne:((ns.length:Int) != (vs.length:Int))=false:=by simp [hr.1]
  have hrs:RightS ns vs:=⟨hr.1,fun v hv=>(List.all_eq_true.1 hr.2) v hv⟩
  have hev:=evOK (nm:=nm0) limB_nil 100000 (-1) ns vs e _ _ rep_exp good_exp (by simp [startM]) ⟨by simp,hrs,by simp only [startM]; omega⟩ he
  have hcell:cellsM 1 (.hp 0 0)=M.pure (.agg [.hp 0 0]):=rfl
  have hBS:buildA T false 145 [(0,.int .i64 (-1)),(1,strs ns),(2,vals vs)] = some (scopeAv (-1) ns vs):=rfl
  have hlp:loadA T 139 (.ip [.hp 0 0])=some (.hp 0 0):=rfl
  have hex:loadA T 31 (.ip (acells e.av))=some e.av:=by simp
  have hcall:∀ h,callW pg 89 [.ip [.hp 0 0],.ip (acells (strs ns)),.ip (acells (vals vs)),.ip (acells e.av)] h=bnd (callW pg 90 [.hp 0 0,scopeAv (-1) ns vs,e.av]) (fun v=>bnd (cellsNil 4 [] v) fun w=>M.pure (AV.agg [nth (acells w) 0,nth (acells w) 1,nth (acells w) 2,nth (acells w) 3])) h:=fun h=>by
   rw [C89]
   simp -implicitDefEqProofs only [S89,hlp,hl1,hl2,hex,hBS,bnd_some]
  have hS:S51 (callW pg) fixW e.av (strs ns) (vals vs) [] = .ok (pairOf (evalX [] 100000 (-1) ns vs e (startM [] 100000 []))) []∨∃ h',S51 (callW pg) fixW e.av (strs ns) (vals vs) [] = .ok (pairOf (evalX [] 100000 (-1) ns vs e (startM [] 100000 []))) h':=by
   right
   simp -implicitDefEqProofs only [S51,hl1,hl2,bnd_some,LENE28,LENE61,bin_neq,hne,guardM_take1,ha,bnd_pure,hr.2,Bool.not_true,nth_zero,pickA_false,condM_bool,Bool.false_eq_true,if_false,hB,acells_agg,hcl,hcell]
   have htry:=t88 (.fn (.func 89) [] [.ip [.hp 0 0],.ip (acells (strs ns)),.ip (acells (vals vs)),.ip (acells e.av)]) [[.hn,.hn,.int .i64 100000,.int .i64 0,.int .i64 0,.int .i64 0,.int .i64 0,.hn,.hn,.hn,.hn,.hn]]
   have hcv:callV (callW pg) (.fn (.func 89) [] [.ip [.hp 0 0],.ip (acells (strs ns)),.ip (acells (vals vs)),.ip (acells e.av)]) [] = callW pg 89 [.ip [.hp 0 0],.ip (acells (strs ns)),.ip (acells (vals vs)),.ip (acells e.av)]:=rfl
   rw [hcv,hcall] at htry
   have how:=out_wrap hev
   generalize evalX [] 100000 (-1) ns vs e (startM [] 100000 [])=r at how ⊢
   cases r with
   | ok v s =>
    obtain ⟨h',e1,_⟩:=how
    refine ⟨h',?_⟩
    rw [e1] at htry
    simp only [tryP,okEl_val,cond_true] at htry
    rw [bnd_ok htry]
    simp [pairOf,M.pure]
   | er c s =>
    obtain ⟨h',e1,_⟩:=how
    refine ⟨h',?_⟩
    rw [e1] at htry
    have ht:tryP 69 .i64 (.agg [.int .i64 0,.int .i64 0,.sl [],.sl []]) (.pan (errAv c) h') = .ok (.tup [Val.av default,.int .i64 c]) h':=rfl
    rw [ht] at htry
    rw [bnd_ok htry]
    simp [pairOf,M.pure]
  rcases hS with h | ⟨h',h⟩
  ·exact isoP_ok h fun g=>by cases evalX [] 100000 (-1) ns vs e (startM [] 100000 []) <;> exact cl_pair g _ _
  ·exact isoP_ok h fun g=>by cases evalX [] 100000 (-1) ns vs e (startM [] 100000 []) <;> exact cl_pair g _ _
 ·rw [if_neg hr]
  have hb:((ns.length:Int) != (vs.length:Int) || !(vs.all (fitsP 4)))=true:=by
   by_cases h1:ns.length=vs.length
   ·have:vs.all (fitsP 4)=false:=by
     rw [← Bool.not_eq_true]
     exact fun h2=>hr ⟨h1,h2⟩
    simp [this]
   ·have:((ns.length:Int) != (vs.length:Int))=true:=by
     rw [bne_iff_ne]
     omega
    simp [this]
  have hgu:guardM (.bool ((ns.length:Int) != (vs.length:Int))) false 1 (M.pure [.bool !(vs.all (fitsP 4))])=M.pure [gv ((ns.length:Int) != (vs.length:Int)) false (.bool !(vs.all (fitsP 4)))]:=guardM_pure1 _ _ _
  have hS:S51 (callW pg) fixW e.av (strs ns) (vals vs)=M.pure (.tup [Val.av default,.int .i64 1]):=by
   simp -implicitDefEqProofs only [S51,hl1,hl2,bnd_some,LENE28,LENE61,bin_neq,ha,bnd_pure,hgu,nth_zero,pickA_or,hb,condM_bool,if_true,hZ]
   simp
  rw [hS]
  exact isoP_pure fun g=>cl_pair g _ _
end Go.Proofs.YtnipfhmghjdnmaaGreat

namespace Go.Proofs.YtnipfhmghjdnmaaGreat
open Go Go.Av Go.Av.Ap
end Go.Proofs.YtnipfhmghjdnmaaGreat

namespace Go.Proofs.YtnipfhmghjdnmaaGreat
open Go Go.Av Go.Av.Ap
end Go.Proofs.YtnipfhmghjdnmaaGreat

namespace Go.Proofs.YtnipfhmghjdnmaaGreat
open Go Go.Av Go.Av.Ap
structure LimR (p:List Mod):Prop where
 body:LimB p
 init:∀ m∈p,m.init.length≤274877906944∧∀ e∈m.init,expLim e
end Go.Proofs.YtnipfhmghjdnmaaGreat

namespace Go.Proofs.YtnipfhmghjdnmaaGreat
open Go Go.Av Go.Av.Ap
end Go.Proofs.YtnipfhmghjdnmaaGreat

namespace Go.Proofs.YtnipfhmghjdnmaaGreat
open Go Go.Av Go.Av.Ap
def rowR (t:Bool) (p:List Mod) (full:List Int) (e:Int) (m:Ms) (dv cv sv:AV):List AV:=[pvOf t p,.int .i64 e,.int .i64 0,.int .i64 0,.hn,.hn,dv,cv,sv,wvOf t full,.int .i64 ((full.length:Int) - (m.world.length:Int)),.int .i64 m.fuel,.int .i64 m.frames]
structure RepR (p:List Mod) (full:List Int) (nm:SNm) (e:Int) (m:Ms) (h:Hp):Prop where
 sub:m.world <:+ full
 tld:nm.told=true→full = []
 rep:Rep (rowR nm.told p full e) nm m h
def ErrR (p:List Mod) (full:List Int) (nm:SNm) (e:Int) (m:Ms) (h:Hp):Prop:=∃ s,RepR p full nm e s h∧s.deeds=m.deeds∧s.calls=m.calls∧s.state=m.state
section
variable {p:List Mod} {full:List Int} {nm:SNm} {e:Int} {m:Ms} {h:Hp}
theorem RepR.r0 (R:RepR p full nm e m h):∃ dv cv sv,h[0]? = some (rowR nm.told p full e m dv cv sv):=by
 obtain ⟨tag,dv,cv,sv,R⟩:=R.rep
 exact ⟨dv,cv,sv,R.r0⟩
theorem _root_.Go.Av.Ap.RepT.turn {row row':Ms→AV→AV→AV→List AV} {nm:SNm} {tag:Nat→Nat} {dv cv sv:AV} {m m':Ms} {h:Hp} (R:RepT row nm tag dv cv sv m h) (h1:m'.deeds=m.deeds) (h2:m'.calls=m.calls) (h3:m'.state=m.state) (h4:m.world = []→m'.world = []) :
  RepT row' nm tag dv cv sv m' (h.set 0 (row' m' dv cv sv)):=by
 have hlt:0 < h.length:=(List.getElem?_eq_some_iff.1 R.r0).1
 have K:Kp tag tag (fun k=>k=0) h (h.set 0 (row' m' dv cv sv)):=fun r cs hr hk=>by
  have:r≠0:=fun e=>hk (by rw [e]; exact R.t0)
  exact ⟨by rw [List.getElem?_set_ne (Ne.symm this)]; exact hr,rfl⟩
 refine ⟨by rw [List.getElem?_set_self hlt],R.t0,?_,?_,?_,R.sve,fun t=>h4 (R.wok t)⟩
 ·rw [h1]; exact R.ds.keep K (by decide) fun _ h=>h
 ·rw [h2]; exact R.cs.keep K (by decide) fun _ h=>h.keep K (by decide)
 ·rw [h3]; exact R.st.keep K (by decide) fun _ h=>⟨h.1,h.2.keep K (by omega)⟩
theorem RepR.er (R:RepR p full nm e m h):ErrR p full nm e m h:=⟨m,R,rfl,rfl,rfl⟩
end
end Go.Proofs.YtnipfhmghjdnmaaGreat

namespace Go.Proofs.YtnipfhmghjdnmaaGreat
open Go Go.Av Go.Av.Ap
theorem minsA_two (a b:Int):minsA true [.int .i64 a,.int .i64 b] = some (.int .i64 (max a b)):=by
 simp only [minsA,minA,cond_true]
 congr 2
 omega
section
variable {p:List Mod} {full:List Int} {nm:SNm} {m:Ms} {h:Hp}
end
end Go.Proofs.YtnipfhmghjdnmaaGreat

namespace Go.Proofs.YtnipfhmghjdnmaaGreat
open Go Go.Av Go.Av.Ap
section
variable {p:List Mod} {full:List Int} {nm:SNm} {m:Ms} {h:Hp}
end
end Go.Proofs.YtnipfhmghjdnmaaGreat

namespace Go.Proofs.YtnipfhmghjdnmaaGreat
open Go Go.Av Go.Av.Ap
section
variable {p:List Mod} {full:List Int} {nm:SNm} {m:Ms} {h:Hp}
end
end Go.Proofs.YtnipfhmghjdnmaaGreat

namespace Go.Proofs.YtnipfhmghjdnmaaGreat
open Go Go.Av Go.Av.Ap
section
variable {p:List Mod} {full:List Int} {nm:SNm} {m:Ms} {h:Hp}
end
end Go.Proofs.YtnipfhmghjdnmaaGreat

namespace Go.Proofs.YtnipfhmghjdnmaaGreat
open Go Go.Av Go.Av.Ap
section
variable {p:List Mod} {full:List Int} {nm:SNm} {m:Ms} {h:Hp}
end
end Go.Proofs.YtnipfhmghjdnmaaGreat

namespace Go.Proofs.YtnipfhmghjdnmaaGreat
open Go Go.Av Go.Av.Ap
section
variable {p:List Mod} {full:List Int} {nm:SNm} {m:Ms} {h:Hp}
end
end Go.Proofs.YtnipfhmghjdnmaaGreat

namespace Go.Proofs.YtnipfhmghjdnmaaGreat
open Go Go.Av Go.Av.Ap
end Go.Proofs.YtnipfhmghjdnmaaGreat

namespace Go.Proofs.YtnipfhmghjdnmaaGreat
open Go Go.Av Go.Av.Ap
set_option maxRecDepth 100000
theorem bndR {α β:Type} {m:M α} {f:α→M β} {h h':Hp} {a:α} (e:m h = .ok a h'):bnd m f h=f a h':=by simp only [bnd,e]
section
variable {V:Type} {f:V→AV} {t et:Nat} {ei:TI} {h:Hp} {l:Nat} {es:List (Ref×V)}
theorem lookH_ent (hm:mapTy T t=some (37,et)) (he:T et=some ei) (hl:h[l]? = some [.tup (es.map (entA f))]) (k:Ref) (ok:Bool) :
  lookH T t (.mp l) (refA k) ok h = .ok (match getK es k with | some v=>(bif ok then .tup [f v,.bool true] else f v) | none=>(bif ok then .tup [zeroEl ei,.bool false] else zeroEl ei)) h:=by
 unfold lookH entsA
 simp only [hl,look_ent f hm he]
 cases getK es k <;> rfl
theorem putH_ent (hm:mapTy T t=some (37,et)) (hl:h[l]? = some [.tup (es.map (entA f))]) (k:Ref) (v:V) :
  putH T t (.mp l) (refA k) (f v) h = .ok (.tup []) (h.set l [.tup ((putK es k v).map (entA f))]):=by
 unfold putH
 have hc:ckV T 20 37 (refA k)=true:=rfl
 simp only [hm,hc,cond_true,hl,put_ent f]
end
theorem zero90:∃ ei,T 90=some ei∧zeroEl ei=zeroF.av:=⟨_,rfl,rfl⟩
theorem zero37:∃ ei,T 37=some ei∧zeroEl ei=refA ([],[]):=⟨_,rfl,rfl⟩
def IsIdx (p:List Mod) (h:Hp) (l:Nat):Prop:=h[l]? = some [.tup ((idxP p).map (entA Fun.av))]
theorem look_fun {p:List Mod} {h:Hp} {l:Nat} (hl:IsIdx p h l) (k:Ref) (ok:Bool):lookH T 110 (.mp l) (refA k) ok h = .ok (bif ok then .tup [((findR p k).getD zeroF).av,.bool (findR p k).isSome] else ((findR p k).getD zeroF).av) h:=by
 obtain ⟨ei,h1,h2⟩:=zero90
 rw [lookH_ent mt110 h1 hl,idx_get,h2]
 cases findR p k <;> cases ok <;> rfl
theorem loop130 (l:List Str) (hb:l.length≤1099511627776):∀ (n:Nat) (i:Int),l.length - i.toNat=n→0≤i→i≤l.length →
  fixW (L130_0 (callW pg) fixW) [.str [],strs l,.int .i64 l.length,.int .i64 i] = M.pure (.str (((l.drop i.toNat).find? fun x=>!(x == [])).getD [])):=by
 intro n
 induction n with
 | zero =>
  intro i hn hi hl
  rw [FL130_0]
  simp only [L130_0]
  have h1:¬ (i < (l.length:Int)):=by omega
  have h2:l.drop i.toNat = []:=List.drop_eq_nil_of_le (by omega)
  simp [h1,h2]
 | succ n ih =>
  intro i hn hi hl
  have h1:i < (l.length:Int):=by omega
  have hlt:i.toNat < l.length:=by omega
  have h4:=ih (i + 1) (by omega) (by omega) (by omega)
  rw [show (i + 1).toNat=i.toNat + 1 by omega] at h4
  rw [FL130_0,List.drop_eq_getElem_cons hlt]
  simp only [L130_0,List.find?_cons]
  by_cases h0:l[i.toNat] = []
  ·simp (disch:=omega) [h1,wrap_in,IX28,h4,h0]
  ·have h0':(l[i.toNat] == [])=false:=beq_eq_false_iff_ne.2 h0
   simp (disch:=omega) [h1,wrap_in,IX28,h0']
theorem t130 (a b:Str):callW pg 130 [strs [a,b]] = M.pure (.str (if a = [] then b else a)):=by
 rw [C130]
 have:=loop130 [a,b] (by simp) 2 0 rfl (by omega) (by simp)
 simp at this
 simp [S130,this]
 by_cases h1:a = []
 ·by_cases h2:b = []
  ·simp [h1,h2]
  ·have:(b == [])=false:=beq_eq_false_iff_ne.2 h2
   simp only [h1,if_true]
   cases b with
   | nil=>exact absurd rfl h2
   | cons c b=>rfl
 ·have:(a == [])=false:=beq_eq_false_iff_ne.2 h1
  simp [h1]
theorem t129 (p:List Mod) (f:Ref) (e:Exp) (h:Hp) (la lf:Nat) (o:List (Ref×Bool)) (ha:IsIdx p h la) (hf:h[lf]? = some [.tup (o.map (entA AV.bool))]) :
  callW pg 129 [e.av,.ip [.str f.1,.str f.2],.ip [.mp la],.ip [.mp lf]] h = .ok (.tup []) (h.set lf [.tup ((foundS p f o e).map (entA AV.bool))]):=by
 rw [C129]
 have hB:∀ x y:Str,buildSliceA T 28 2 [(0,.str x),(1,.str y)] = some (strs [x,y]):=fun x y=>rfl
 have hB2:∀ x y:Str,buildA T false 37 [(0,.str x),(1,.str y)] = some (refA (x,y)):=fun x y=>rfl
 have hset:h.set lf [.tup (o.map (entA AV.bool))] = h:=by
  apply List.ext_getElem?
  intro i
  rw [List.getElem?_set]
  split
  ·rename_i hi; subst hi
   obtain ⟨h1,h2⟩:=List.getElem?_eq_some_iff.1 hf
   simp [h1,h2]
  ·rfl
 have hlook:=look_fun ha (tgt f e) true
 have hput:=putH_ent (f:=AV.bool) mt185 hf (tgt f e) true
 have htg:tgt f e=(if e.m = [] then f.1 else e.m,e.s):=rfl
 simp [S129,hB,t130,hB2,noPan_pure]
 rw [← htg]
 have hcm:cellsM 2 (refA (tgt f e))=M.pure (refA (tgt f e)):=by rw [cellsM_of (okEl_ref _),acells_ref,fold_ref]
 simp [hcm]
 rw [bndR hlook]
 unfold foundS callB
 cases hfi:findR p (tgt f e) with
 | none=>simp [hset]; rfl
 | some g =>
  simp
  split
  ·rw [bndR hput]; rfl
  ·rw [hset]; rfl
end Go.Proofs.YtnipfhmghjdnmaaGreat

namespace Go.Proofs.YtnipfhmghjdnmaaGreat
open Go Go.Av Go.Av.Ap
set_option maxRecDepth 100000
theorem arg_size {e x:Exp} (h:x∈e.args):SizeOf.sizeOf x < SizeOf.sizeOf e:=by
 cases e with
 | mk o n s m ns es =>
  have:=List.sizeOf_lt_of_mem h
  simp only [Exp.mk.sizeOf_spec]
  show SizeOf.sizeOf x < 1 + SizeOf.sizeOf o + SizeOf.sizeOf n + SizeOf.sizeOf s + SizeOf.sizeOf m + SizeOf.sizeOf ns + SizeOf.sizeOf es
  have h2:SizeOf.sizeOf x < SizeOf.sizeOf es:=this
  omega
theorem loop67 {σ:Type} {H:σ→Hp} {st:σ→Exp→σ} {g:AV} {l:List Exp} (hl:l.length≤140737488355328) (ih:∀ x∈l,∀ s,callW pg 67 [x.av,g] (H s) = .ok (.tup []) (H ((nodesL x).foldl st s))) :
  ∀ (n:Nat) (i:Int) s,l.length - i.toNat=n→0≤i→i≤l.length→fixW (L67_0 (callW pg) fixW) [g,exps l,.int .i64 l.length,.int .i64 i] (H s) = .ok (.tup []) (H (((l.drop i.toNat).flatMap nodesL).foldl st s)):=by
 intro n
 induction n with
 | zero =>
  intro i s hn hi hb
  rw [FL67_0]
  simp only [L67_0]
  have h1:¬ (i < (l.length:Int)):=by omega
  have h2:l.drop i.toNat = []:=List.drop_eq_nil_of_le (by omega)
  simp [h1,h2]
  rfl
 | succ n IH =>
  intro i s hn hi hb
  have h1:i < (l.length:Int):=by omega
  have hlt:i.toNat < l.length:=by omega
  have h4:=IH (i + 1) ((nodesL l[i.toNat]).foldl st s) (by omega) (by omega) (by omega)
  rw [show (i + 1).toNat=i.toNat + 1 by omega] at h4
  have h5:=ih _ (List.getElem_mem hlt) s
  rw [FL67_0]
  simp only [L67_0]
  simp (disch:=omega) [h1,wrap_in,IX29]
  rw [bndR h5,h4,List.drop_eq_getElem_cons hlt,List.flatMap_cons,List.foldl_append]
theorem t67 {σ:Type} {H:σ→Hp} {st:σ→Exp→σ} {g:AV} (hg:∀ s e,callV (callW pg) g [e.av] (H s) = .ok (.tup []) (H (st s e))) :
  ∀ (n:Nat) (e:Exp),SizeOf.sizeOf e≤n→e.Lim→∀ s,callW pg 67 [e.av,g] (H s) = .ok (.tup []) (H ((nodesL e).foldl st s)):=by
 intro n
 induction n with
 | zero=>intro e he; cases e; simp at he
 | succ n ih =>
  intro e he hL s
  rw [C67]
  have h1:=hg s e
  have h2:=loop67 (H:=H) (st:=st) (g:=g) hL.len (fun x hx s=>ih x (by have:=arg_size hx; omega) (hL.kid hx) s) e.args.length 0 (st s e) rfl (by omega) (by omega)
  simp [S67]
  rw [bndR h1]
  simp at h2
  simp [h2]
  rw [nodesL_eq]
  rfl
theorem mapM_map {α β γ:Type} {f:β→Option γ} {k:α→β} {g:α→γ} (hf:∀ x,f (k x)=some (g x)):∀ l:List α,(l.map k).mapM f=some (l.map g)
 | []=>rfl
 | x :: l=>by
  rw [List.map_cons,List.mapM_cons,hf,mapM_map hf l]
  rfl
theorem modP_mod (m:Mod):modP m.av=some (m.name,m.funcs.map fun f=>(f.name,f.av)):=by
 show ((m.funcs.map Fun.av).mapM funP).map (fun l=>(m.name,l))=_
 rw [mapM_map (f:=funP) (k:=Fun.av) (g:=fun f:Fun=>(f.name,f.av)) (fun f=>by cases f with | mk a b c r w e=>cases r; cases e; rfl)]
 rfl
theorem t53 (p:List Mod) (h1:p.length≤1000000) (h2:∀ m∈p,m.funcs.length≤1000000) (h:Hp):callW pg 53 [mods p] h = .ok (.mp h.length) (h++[[.tup ((idxP p).map (entA Fun.av))]]):=by
 rw [callW_other hOther (E:=indexE) rfl]
 show (match (p.map Mod.av).mapM modP with | some l=>_ | none=>_)=_
 rw [mapM_map (g:=fun m:Mod=>(m.name,m.funcs.map fun f=>(f.name,f.av))) modP_mod]
 simp only
 rw [if_pos ⟨by simpa using h1,fun m hm=>by
  obtain ⟨m',hm',rfl⟩:=List.mem_map.1 hm
  simpa using h2 m' hm'⟩]
 have:(p.map fun m:Mod=>(m.name,m.funcs.map fun f=>(f.name,f.av)))=(p.map partsM).map fun m=>(m.1,m.2.map fun x=>(x.1,x.2.av)):=by
  rw [List.map_map]
  apply List.map_congr_left
  intro m _
  simp [partsM]
 rw [this]
 have:=idxG_map Fun.av (p.map partsM) [] []
 rw [List.map_nil] at this
 rw [this,List.map_map]
 rfl
theorem t64 {V:Type} {f:V→AV} {h:Hp} {l:Nat} {es:List (Ref×V)} (hl:h[l]? = some [.tup (es.map (entA f))]) (hb:es.length≤1000000) (g:Nat) (hg:g=173∨g=104) :
  callW pg 64 [.fn (.func g) [] [.ip [.mp l]],.fn (.func 66) [] []] h = .ok (refsA (sortR (es.map (·.1)))) h:=by
 rw [callW_other hOther (E:=sortedE [104,173] 66) rfl]
 have hk:(es.map (entA f)).mapM keyR=some (es.map (·.1)):=mapM_map (f:=keyR) (k:=entA f) (g:=fun x:Ref×V=>x.1) (fun x=>rfl) es
 have hm:(memN [104,173] g&&Nat.beq 66 66)=true:=by rcases hg with rfl | rfl <;> rfl
 show (bif memN [104,173] g&&Nat.beq 66 66 then _ else _:R AV)=_
 rw [hm]
 show (match entsA h (.mp l) with | some es=>_ | none=>_)=_
 simp only [entsA,hl,hk,List.length_map,if_pos hb]
theorem fbody (f:Fun):fieldA T 90 f.av 5=some f.body.av:=by
 cases f with | mk a b c r w e=>cases r; cases e; rfl
theorem t91 {p:List Mod} {h:Hp} {la:Nat} (ha:IsIdx p h la) (f:Ref) (hL:(bodyR p f).Lim) (hb:(found p f).length≤1000000) :
  callW pg 91 [.mp la,refA f] h = .ok (refsA (callL p f)) (h++[[.tup ((found p f).map (entA AV.bool))]]):=by
 rw [C91]
 have hla:la < h.length:=(List.getElem?_eq_some_iff.1 ha).1
 let H0:List (Ref×Bool)→Hp:=fun o=>h++[[.tup (o.map (entA AV.bool))]]
 have h0:=t67 (H:=H0) (st:=foundS p f) (g:=.fn (.func 129) [] [.ip [.str f.1,.str f.2],.ip [.mp la],.ip [.mp h.length]]) (fun o e=>by
  have:=t129 p f e (h++[[.tup (o.map (entA AV.bool))]]) la h.length o (by unfold IsIdx; rw [List.getElem?_append_left hla]; exact ha) (by simp)
  show callW pg 129 ([]++[e.av]++_) _=_
  simp only [List.nil_append,List.cons_append]
  rw [this]
  simp [H0]) _ (bodyR p f) (Nat.le_refl _) hL []
 have hlk:=look_fun (p:=p) (h:=h++[[.tup []]]) (l:=la) (by unfold IsIdx; rw [List.getElem?_append_left hla]; exact ha) f false
 have hs:=t64 (f:=AV.bool) (h:=h++[[.tup ((found p f).map (entA AV.bool))]]) (l:=h.length) (es:=found p f) (by simp) hb 173 (.inl rfl)
 have hk:callW pg 131 [.mp h.length] = M.pure (.fn (.func 173) [] [.ip [.mp h.length]]):=C131 _
 simp [S91]
 rw [bndR (m:=newMapH) (h:=h) rfl]
 have hc1:cellsM 1 (.mp h.length)=M.pure (.agg [.mp h.length]):=cellsM_of rfl
 have hc2:∀ n,acells (.mp n) = [.mp n]:=fun _=>rfl
 simp only [hc1]
 simp [hk,hc2]
 rw [bndR hlk]
 simp [fbody]
 refine (bndR h0).trans ?_
 refine (bndR hs).trans ?_
 rfl
end Go.Proofs.YtnipfhmghjdnmaaGreat

namespace Go.Proofs.YtnipfhmghjdnmaaGreat
open Go Go.Av Go.Av.Ap
set_option maxRecDepth 100000
structure Sm (p:List Mod):Prop where
 len:p.length≤1000000
 funcs:∀ m∈p,m.funcs.length≤1000000
 idx:(idxP p).length≤1000000
 body:∀ r,(bodyR p r).Lim
theorem Sm.calls {p:List Mod} (S:Sm p) (f:Ref):(callL p f).length≤1000000:=by
 have:=len_le_of_sub (l:=callL p f) (m:=(idxP p).map (·.1)) (callL_nodup p f) (fun x hx=>(idx_keys p x).2 (callL_in hx))
 have:=S.idx
 simp at *
 omega
theorem Sm.found {p:List Mod} (S:Sm p) (f:Ref):(found p f).length≤1000000:=by
 have h1:=S.calls f
 have h2:(callL p f).length=((Ap.found p f).map (·.1)).length:=(sortR_perm _).length_eq
 simp at h2
 omega
theorem set_mid (h:Hp) (x y:List AV) (J:Hp):(h++x :: J).set h.length y=h++y :: J:=by simp
theorem look_ref {h:Hp} {l:Nat} {es:List (Ref×Ref)} (hl:h[l]? = some [.tup (es.map (entA refA))]) (k:Ref):lookH T 108 (.mp l) (refA k) true h = .ok (.tup [refA ((getK es k).getD ([],[])),.bool (getK es k).isSome]) h:=by
 obtain ⟨ei,h1,h2⟩:=zero37
 rw [lookH_ent mt108 h1 hl,h2]
 cases getK es k <;> rfl
theorem pre_keys (D:List (Ref×List Ref)):(D.map preR).map (·.1)=D.map (·.1):=by rw [List.map_map]; rfl
theorem getK_pre (D:List (Ref×List Ref)) (r:Ref):(getK (D.map preR) r).isSome=decide (r∈D.map (·.1)):=by
 rw [← pre_keys]
 cases h:getK (D.map preR) r with
 | none=>rw [decide_eq_false (getK_none.1 h)]; rfl
 | some v=>rw [decide_eq_true (List.mem_map.2 ⟨_,getK_mem h,rfl⟩)]; rfl
theorem putK_new {V:Type} (l:List (Ref×V)) (k:Ref) (v:V) (h:k ∉ l.map (·.1)):putK l k v=l++[(k,v)]:=by
 induction l with
 | nil=>rfl
 | cons x l ih =>
  simp only [List.map_cons,List.mem_cons,not_or] at h
  simp only [putK]
  rw [if_neg (fun e=>h.1 e.symm),ih h.2]
  rfl
theorem cutRefs (x:Ref) (l:List Ref):cutA T 42 (refsA (x :: l)) (some (.int .i64 1))=some (refsA l):=by
 have:cutA T 42 (refsA (x :: l)) (some (.int .i64 1))=sliceA T 42 (.sl ((x :: l).map refA)) (some (.int .i64 1)) none none:=rfl
 rw [this,sliceA_lo (e:=37) rfl rfl rfl ((x :: l).map refA) (okSz_refs _) (n:=1) (by decide) (by simp; omega)]
 rfl
theorem ix0 (y:Ref) (l:List Ref):indexAddrA T 42 (refsA (y :: l)) (.int .i64 0)=some (.ip (acells (refA y))):=by
 rw [IX42 (by omega) (by simp <;> omega)]
 rfl
theorem rowD_get (h:Hp) (D:List (Ref×List Ref)) (J:Hp):(h++rowD D :: J)[h.length]? = some [.tup ((D.map preR).map (entA refA))]:=by simp [rowD]
theorem rowD_add (h:Hp) (D:List (Ref×List Ref)) (J:Hp) (c:List Ref) (r y:Ref) (hc:c.getLast? = some y) (hr:r ∉ D.map (·.1)):putH T 108 (.mp h.length) (refA r) (refA y) (h++rowD D :: J) = .ok (.tup []) (h++rowD (D++[(r,c++[r])]) :: J):=by
 rw [putH_ent mt108 (rowD_get h D J),set_mid,putK_new _ _ _ (by rw [pre_keys]; exact hr)]
 simp only [rowD,List.map_append,List.map_cons,List.map_nil,preR_cons c r y hc]
theorem loop52 (la:Nat) (h:Hp) (J:Hp) (l:List Ref) (y:Ref) (c:List Ref) (hc:c.getLast? = some y) (k:Nat) (K:List AV→M AV):∀ (n:Nat) (i:Int) (D:List (Ref×List Ref)),l.length - i.toNat=n→0≤i→i≤l.length→k≤D.length→D.length + n≤4000000→l.length≤4000000 →
  fixW (L52_0 (callW pg) fixW K) [.mp la,.mp h.length,refsA (y :: (D.map (·.1)).drop k),refsA l,.int .i64 l.length,.int .i64 i] (h++rowD D :: J) =
   K [.mp la,.mp h.length,refsA ((((l.drop i.toNat).foldl (stepD c) D).map (·.1)).drop k)] (h++rowD ((l.drop i.toNat).foldl (stepD c) D) :: J):=by
 intro n
 induction n with
 | zero =>
  intro i D hn hi hb _ _ _
  rw [FL52_0]
  simp only [L52_0]
  have h1:¬ (i < (l.length:Int)):=by omega
  have h2:l.drop i.toNat = []:=List.drop_eq_nil_of_le (by omega)
  simp [h1,h2,cutRefs]
 | succ n IH =>
  intro i D hn hi hb hk hD hll
  have h1:i < (l.length:Int):=by omega
  have hlt:i.toNat < l.length:=by omega
  have h3:=look_ref (rowD_get h D J) l[i.toNat]
  rw [getK_pre] at h3
  have hcm:∀ r,cellsM 2 (refA r)=M.pure (refA r):=fun r=>by rw [cellsM_of (okEl_ref _),acells_ref,fold_ref]
  rw [FL52_0]
  simp only [L52_0]
  simp (disch:=omega) [h1,wrap_in,IX42,hcm]
  rw [bndR h3]
  have hB:∀ x:Ref,buildSliceA T 42 1 [(0,refA x)] = some (refsA [x]):=fun x=>rfl
  by_cases hr:l[i.toNat]∈D.map (·.1)
  ·have h4:=IH (i + 1) D (by omega) (by omega) (by omega) hk (by omega) hll
   rw [show (i + 1).toNat=i.toNat + 1 by omega] at h4
   have h5:stepD c D l[i.toNat] = D:=if_pos hr
   simp only [hr,decide_true]
   simp [hcm]
   rw [h4,List.drop_eq_getElem_cons hlt,List.foldl_cons,h5]
  ·have h4:=IH (i + 1) (D++[(l[i.toNat],c++[l[i.toNat]])]) (by omega) (by omega) (by omega) (by simp; omega) (by simp; omega) hll
   rw [show (i + 1).toNat=i.toNat + 1 by omega] at h4
   have h5:stepD c D l[i.toNat] = D++[(l[i.toNat],c++[l[i.toNat]])]:=if_neg hr
   have h6:=rowD_add h D J c l[i.toNat] y hc hr
   have h7:((D++[(l[i.toNat],c++[l[i.toNat]])]).map (·.1)).drop k=(D.map (·.1)).drop k++[l[i.toNat]]:=by
    rw [List.map_append,List.drop_append_of_le_length (by simpa using hk)]; rfl
   rw [h7] at h4
   simp only [hr,decide_false]
   simp [hcm]
   simp [ix0,hB]
   rw [bndR h6]
   have h8:appA T 42 (refsA (y :: (D.map (·.1)).drop k)) (refsA [l[i.toNat]])=some (refsA (y :: ((D.map (·.1)).drop k++[l[i.toNat]]))):=by
    rw [AP42 (by simp; omega)]; rfl
   simp only [h8]
   simp
   rw [h4,List.drop_eq_getElem_cons hlt,List.foldl_cons,h5]
theorem loop52o {p:List Mod} (S:Sm p) {f:Ref} (la:Nat) (h:Hp) (ha:IsIdx p h la):∀ (n k:Nat) (D:List (Ref×List Ref)) (J:Hp),DInv p f k D→(idxP p).length≤k + n→k≤D.length →
  ∃ J':Hp,J'.length + k=J.length + (bfsD (callL p) n k D).length∧fixW (L52_1 (callW pg) fixW) [.mp la,.mp h.length,refsA ((D.map (·.1)).drop k)] (h++rowD D :: J) = .ok (.mp h.length) (h++rowD (bfsD (callL p) n k D) :: J'):=by
 have hla:la < h.length:=(List.getElem?_eq_some_iff.1 ha).1
 intro n
 induction n with
 | zero =>
  intro k D J I hn hk
  have:=I.len
  have h1:(D.map (·.1)).drop k = []:=List.drop_eq_nil_of_le (by simp; omega)
  refine ⟨J,by simp only [bfsD]; omega,?_⟩
  rw [h1,FL52_1]
  simp only [L52_1]
  simp [refsA]
  rfl
 | succ n IH =>
  intro k D J I hn hk
  cases hD:D[k]? with
  | none =>
   have h0:=List.getElem?_eq_none_iff.1 hD
   have h1:(D.map (·.1)).drop k = []:=List.drop_eq_nil_of_le (by simp; omega)
   refine ⟨J,by simp only [bfsD,hD]; omega,?_⟩
   rw [h1,FL52_1]
   simp only [L52_1,bfsD,hD]
   simp [refsA]
   rfl
  | some e =>
   obtain ⟨x,c⟩:=e
   obtain ⟨hlt,he⟩:=List.getElem?_eq_some_iff.1 hD
   have hI:=S.idx
   have hIl:=I.len
   have hcl:=S.calls x
   have h1:(D.map (·.1)).drop k=x :: (D.map (·.1)).drop (k + 1):=by
    rw [List.drop_eq_getElem_cons (by simpa using hlt)]
    simp [he]
   have hc:=t91 (p:=p) (h:=h++rowD D :: J) (la:=la) (by unfold IsIdx; rw [List.getElem?_append_left hla]; exact ha) x (S.body x) (S.found x)
   have hlast:c.getLast? = some x:=I.last (List.mem_of_getElem? hD)
   have h2:=loop52 la h (J++[[.tup ((found p x).map (entA AV.bool))]]) (callL p x) x c hlast (k + 1) (fixW (L52_1 (callW pg) fixW)) (callL p x).length 0 D rfl (by omega) (by omega) (by omega) (by omega) (by omega)
   obtain ⟨J',hJ,h3⟩:=IH (k + 1) (D++newD (callL p) D x c) (J++[[.tup ((found p x).map (entA AV.bool))]]) (I.step hD) (by omega) (by simp; omega)
   refine ⟨J',by simp only [bfsD,hD]; simp at hJ; omega,?_⟩
   have hdr:(callL p x).drop (0:Int).toNat=callL p x:=rfl
   rw [hdr,newD_eq _ _ _ _ (callL_nodup p x),h3] at h2
   rw [h1,FL52_1]
   simp only [L52_1,bfsD,hD]
   have hpos:(0:Int) < ((D.map (·.1)).drop (k + 1)).length + 1:=by omega
   simp [ix0]
   rw [bndR hc]
   have hj:(h++rowD D :: J)++[[.tup ((found p x).map (entA AV.bool))]] = h++rowD D :: (J++[[.tup ((found p x).map (entA AV.bool))]]):=by simp
   rw [hj]
   have hlen:lenA T 42 (refsA (callL p x))=some (.int .i64 (callL p x).length):=by simp [refsA]
   simp only [hlen]
   simp
   exact h2
theorem t52 {p:List Mod} (S:Sm p) {h:Hp} {la:Nat} (ha:IsIdx p h la) (f:Ref) :
  ∃ J:Hp,J.length=(reachD p f).length∧callW pg 52 [.mp la,refA f] h=if (findR p f).isSome=true then .ok (.mp h.length) (h++rowD (reachD p f) :: J) else .ok .nilm h:=by
 have hla:la < h.length:=(List.getElem?_eq_some_iff.1 ha).1
 have h1:=look_fun ha f true
 by_cases hf:(findR p f).isSome=true
 ·obtain ⟨J,hJ,h2⟩:=loop52o S la h ha ((idxP p).length + 1) 0 [(f,[f])] [] (DInv.zero hf) (by omega) (by simp)
  have h3:reachD p f=bfsD (callL p) ((idxP p).length + 1) 0 [(f,[f])]:=if_pos hf
  refine ⟨J,by rw [h3]; simpa using hJ,?_⟩
  rw [if_pos hf]
  rw [h3,C52]
  simp [S52]
  rw [bndR h1]
  simp [hf]
  rw [bndR (m:=newMapH) (h:=h) rfl]
  have h4:=putH_ent (f:=refA) (h:=h++[[.tup []]]) (l:=h.length) (es:=[]) mt108 (by simp) f f
  rw [bndR h4]
  have hB:buildSliceA T 42 1 [(0,refA f)] = some (refsA [f]):=rfl
  have h5:(h++[[AV.tup []]]).set h.length [.tup ((putK [] f f).map (entA refA))] = h++rowD [(f,[f])] :: []:=by
   rw [set_mid]
   rfl
  simp only [hB]
  rw [h5]
  exact h2
 ·refine ⟨[],by unfold reachD; rw [if_neg hf]; rfl,?_⟩
  rw [if_neg hf]
  have hf':(findR p f).isSome=false:=by simpa using hf
  rw [C52]
  simp [S52]
  rw [bndR h1]
  simp [hf']
  rfl
end Go.Proofs.YtnipfhmghjdnmaaGreat

namespace Go.Proofs.YtnipfhmghjdnmaaGreat
open Go Go.Av Go.Av.Ap
set_option maxRecDepth 100000
theorem isoR {m:M AV} {a:AV} {h:Hp} (hm:m [] = .ok a h) (hc:Go.Av.Ap.Clean a):isoP m=M.pure a:=by
 funext h0
 simp only [isoP,hm,hc.frz]
 rfl
theorem clean_refs (l:List Ref):Go.Av.Ap.Clean (refsA l):=fun g=>cl_refs g l
theorem idx0 {p:List Mod} (S:Sm p):callW pg 53 [mods p] [] = .ok (.mp 0) [[.tup ((idxP p).map (entA Fun.av))]]:=t53 p S.len S.funcs []
end Go.Proofs.YtnipfhmghjdnmaaGreat

namespace Go.Proofs.YtnipfhmghjdnmaaGreat
open Go Go.Av Go.Av.Ap
set_option maxRecDepth 100000
theorem rep_of {l:Hp} {n:Nat} (h1:l.length=n) (h2:∀ x∈l,x = []):l=List.replicate n []:=List.eq_replicate_iff.2 ⟨h1,h2⟩
end Go.Proofs.YtnipfhmghjdnmaaGreat

namespace Go.Proofs.YtnipfhmghjdnmaaGreat
open Go Go.Av Go.Av.Ap
set_option maxRecDepth 100000
end Go.Proofs.YtnipfhmghjdnmaaGreat

namespace Go.Proofs.YtnipfhmghjdnmaaGreat
open Go Go.Av Go.Av.Ap
set_option maxRecDepth 100000
theorem appR {h:Hp} {q:Nat} {P:List Ref} (hq:h[q]? = some (cellsR P)) (h0:P≠[]) (hb:P.length≤4000000) (r:Ref) :
  appH T 42 false (.hs q 0 P.length 2 true) (refsA [r]) h = .ok (.hs h.length 0 (P++[r]).length 2 true) (h.set q []++[cellsR (P++[r])]):=by
 have hp:0 < P.length:=by cases P with | nil=>exact absurd rfl h0 | cons _ _=>simp
 have:=appHr (T:=T) (t:=42) (e:=37) (ti:=_) (ei:=_) rfl rfl rfl (x:=refA r) rfl (by decide) (by decide) (h:=h) (q:=q) (n:=P.length) (cs:=cellsR P) hq (cellsR_ok P) (cellsR_len P) hp (by show (P.length + 1) * 32≤_; omega)
 rw [cellsR_app,List.length_append]
 exact this
theorem binNe (a b:Ref):binA T .neq 37 (refA a) (refA b)=some (.bool !decide (a=b)):=by
 show (eqA T 20 37 (refA a) (refA b)).map (fun b=>AV.bool !b)=_
 rw [eq37]
 rfl
theorem binEq (a b:Ref):binA T .eql 37 (refA a) (refA b)=some (.bool (decide (a=b))):=by
 show (eqA T 20 37 (refA a) (refA b)).map AV.bool=_
 rw [eq37]
 rfl
end Go.Proofs.YtnipfhmghjdnmaaGreat

namespace Go.Proofs.YtnipfhmghjdnmaaGreat
open Go Go.Av Go.Av.Ap
set_option maxRecDepth 100000
theorem cond_tr {α:Type} {b:Bool} {x y:α} (h:b=true):(bif b then x else y)=x:=by rw [h]; rfl
theorem flat_ea:∀ l:List Ref,(l.map eaRef).flatten=cellsR l
 | []=>rfl
 | r :: l=>by
  rw [List.map_cons,List.flatten_cons,flat_ea l]
  rfl
theorem t77 {h:Hp} {q:Nat} {P:List Ref} (hq:h[q]? = some (cellsR P)) (h0:P≠[]) (hb:P.length≤4000000) :
  callW pg 77 [.hs q 0 P.length 2 true,.fn (.func 66) [] []] h = .ok (.tup []) (h.set q (cellsR (sortR P))):=by
 rw [callW_other hOther (E:=sortRefE 66) rfl]
 show sortE elsRef 66 srtRef (callW pg) [.hs q 0 P.length 2 true,.fn (.func 66) [] []] h=_
 have hp:0 < P.length:=by cases P with | nil=>exact absurd rfl h0 | cons _ _=>simp
 have h1:elsRef.dec (((cellsR P).drop 0).take (P.length * elsRef.k))=some P:=by
  show decRef (((cellsR P).drop 0).take (P.length * 2))=some P
  rw [List.drop_zero,← cellsR_len,List.take_length,← flat_ea]
  exact decRef_map P
 have h2:((srtRef P).map elsRef.ea).flatten=cellsR (sortR P):=by
  rw [srtRef_eq]
  exact flat_ea _
 have h3:(Nat.beq 66 66&&Nat.beq 2 elsRef.k&&decide (0 < P.length)&&decide (0 + P.length * elsRef.k≤(cellsR P).length)&&decide (P.length=P.length)&&decide (P.length < 4611686018427387904)&&decide ((srtRef P).length=P.length)&&(cellsR P).all okCell&&((srtRef P).map elsRef.ea).flatten.all okCell)=true:=by
  rw [h2,srtRef_eq,sortR_len,cellsR_ok,cellsR_ok,cellsR_len]
  have:elsRef.k=2:=rfl
  rw [this]
  simp
  omega
 simp only [decide_true] at h3
 simp only [sortE,hq,h1]
 refine (cond_tr ?_).trans ?_
 ·simpa using h3
 congr 2
 rw [h2]
 unfold setCells
 simp only [List.take_zero,List.nil_append,Nat.zero_add,cellsR_len,sortR_len]
 rw [List.drop_eq_nil_of_le (by rw [cellsR_len]; omega),List.append_nil]
def idxK (p:List Mod) (q:Nat):Ref:=((idxP p)[q]?.map (·.1)).getD ([],[])
def usesB (p:List Mod) (f k:Ref) (g:Fun):Bool:=decide (f∈(reachD p k).map (·.1))&&g.pub
def selB (p:List Mod) (f:Ref) (q:Nat):Bool:=((idxP p)[q]?.map fun e=>usesB p f e.1 e.2).getD false
def cntB (p:List Mod) (f:Ref) (q:Nat):Nat:=1 + (reachD p (idxK p q)).length + (if selB p f q=true then 1 else 0)
def selQ (p:List Mod) (f:Ref) (qs:List Nat):List Ref:=(qs.filter (selB p f)).map (idxK p)
def cntQ (p:List Mod) (f:Ref) (n:Nat) (qs:List Nat):Nat:=qs.foldl (fun n q=>n + cntB p f q) n
def usersL (p:List Mod) (f:Ref):List Ref:=sortR (selQ p f (List.range (idxP p).length))
inductive OutRc (h:Hp):AV→List Ref→Prop
 | nil:OutRc h .hn []
 | cons (q:Nat) (P:List Ref):2≤q→h[q]? = some (cellsR P)→P≠[]→OutRc h (.hs q 0 P.length 2 true) P
theorem OutRc.grow {h:Hp} {out:AV} {P:List Ref} (H:OutRc h out P) (J:Hp):OutRc (h++J) out P:=by
 cases H with
 | nil=>exact .nil
 | cons q P h1 h2 h3=>exact .cons q P h1 (by rw [List.getElem?_append_left (List.getElem?_eq_some_iff.1 h2).1]; exact h2) h3
theorem OutRc.put {h:Hp} {out:AV} {P:List Ref} (H:OutRc h out P) (hb:P.length≤4000000) (h2:2≤h.length) (r:Ref):∃ out' h',appH T 42 false out (refsA [r]) h = .ok out' h'∧OutRc h' out' (P++[r])∧h'.length=h.length + 1∧∀ i,i < 2→h'[i]? = h[i]?:=by
 cases H with
 | nil =>
  refine ⟨.hs h.length 0 1 2 true,h++[cellsR [r]],rfl,.cons h.length [r] h2 (by simp) (by simp),by simp,fun i hi=>by rw [List.getElem?_append_left (by omega)]⟩
 | cons q P h3 h4 h5 =>
  have:=appR h4 h5 hb r
  refine ⟨_,_,this,.cons h.length (P++[r]) h2 ?_ (by simp),by simp,fun i hi=>?_⟩
  ·have:(h.set q []).length=h.length:=by simp
   rw [← this]
   simp
  ·rw [List.getElem?_append_left (by simp; omega),List.getElem?_set_ne (by omega)]
theorem OutRc.set1 {h:Hp} {out:AV} {P:List Ref} (H:OutRc h out P) (x:List AV):OutRc (h.set 1 x) out P:=by
 cases H with
 | nil=>exact .nil
 | cons q P h1 h2 h3=>exact .cons q P h1 (by rw [List.getElem?_set_ne (by omega)]; exact h2) h3
theorem OutRc.done {h:Hp} {out:AV} {P:List Ref} (H:OutRc h out P) (hb:P.length≤4000000):bnd (callW pg 77 [out,.fn (.func 66) [] []]) (fun _=>bnd (lft (some out)) fzM) h = .ok (refsA (sortR P)) (List.replicate h.length []):=by
 have hrep:∀ h:Hp,h.map (fun _=>([]:List AV))=List.replicate h.length []:=fun h=>rep_of (List.length_map _) (fun x hx=>by obtain ⟨_,_,rfl⟩:=List.mem_map.1 hx; rfl)
 cases H with
 | nil =>
  have h1:callW pg 77 [.hn,.fn (.func 66) [] []] h = .ok (.tup []) h:=by
   rw [callW_other hOther (E:=sortRefE 66) rfl]
   rfl
  rw [bndR h1]
  simp only [bnd_some,fzM,hrep]
  rfl
 | cons q P h1 h2 h3 =>
  rw [bndR (t77 h2 h3 hb)]
  simp only [bnd_some,fzM,hrep,List.length_set]
  have hql:q < h.length:=(List.getElem?_eq_some_iff.1 h2).1
  have:=frz_refs (h:=h.set q (cellsR (sortR P))) (l:=q) (P:=sortR P) (List.getElem?_set_self hql) 5
  rw [sortR_len] at this
  rw [this]
theorem selQ_len (p:List Mod) (f:Ref) (qs:List Nat):(selQ p f qs).length≤qs.length:=by
 unfold selQ
 rw [List.length_map]
 exact List.length_filter_le _ _
theorem selQ_perm (p:List Mod) (f:Ref) {a b:List Nat} (h:a.Perm b):(selQ p f a).Perm (selQ p f b):=(h.filter _).map _
theorem cntQ_perm (p:List Mod) (f:Ref) {a b:List Nat} (h:a.Perm b) (n:Nat):cntQ p f n a=cntQ p f n b:=h.foldl_eq' (fun x _ y _ z=>by omega) n
theorem loop41 {p:List Mod} (S:Sm p) (f:Ref):∀ (n:Nat) (qs:List Nat) (P:List Ref) (out:AV) (h:Hp) (c:AV),qs.length=n→qs.Nodup→(∀ q∈qs,q < (idxP p).length)→OutRc h out P→P.length + n≤3000000 →
  IsIdx p h 0→h[1]? = some [.tup [],.mp 0,.int .i64 (idxP p).length,posA qs,c] →
  fixW (L41_0 (callW pg) fixW) [.ip [.str f.1,.str f.2],.mp 0,out,.it 1] h = .ok (refsA (sortR (P++selQ p f qs))) (List.replicate (cntQ p f h.length qs) []):=by
 intro n
 induction n with
 | zero =>
  intro qs P out h c hn _ _ hO hb hi h1
  obtain rfl:qs = []:=List.length_eq_zero_iff.1 hn
  rw [FL41_0]
  simp only [L41_0,nth_zero,nth_succ]
  rw [nxt_nil h1 hi (by simp)]
  have:=(hO.set1 []).done (by omega)
  rw [this]
  simp [selQ,cntQ]
 | succ n IH =>
  intro qs P out h c hn hnd hlt hO hb hi h1
  rw [FL41_0]
  simp only [L41_0,nth_zero,nth_succ]
  have hhl:2≤h.length:=by have:=(List.getElem?_eq_some_iff.1 h1).1; omega
  apply nxt_cons h1 hi (by simp)
  ·intro e; rw [e] at hn; cases hn
  intro q hq
  have hqI:=hlt q hq
  have hent:((idxP p).map (entA Fun.av))[q]? = some (.tup [refA (idxP p)[q].1,(idxP p)[q].2.av]):=by
   rw [List.getElem?_map,List.getElem?_eq_getElem hqI]
   rfl
  have hk:idxK p q=(idxP p)[q].1:=by simp [idxK,hqI]
  have hs:selB p f q=usesB p f (idxP p)[q].1 (idxP p)[q].2:=by simp [selB,hqI]
  generalize hg:(idxP p)[q] = e at hent hk hs
  obtain ⟨k,g⟩:=e
  simp only at hent hk hs
  have hmem:(k,g)∈idxP p:=hg ▸ List.getElem_mem hqI
  have hfk:(findR p k).isSome=true:=(idx_keys p k).1 (List.mem_map.2 ⟨_,hmem,rfl⟩)
  let h2:=h.set 1 [.tup [],.mp 0,.int .i64 (idxP p).length,posA (qs.filter fun r=>!(Nat.beq r q)),.int .i64 (q:Nat)]
  have hi2:IsIdx p h2 0:=by unfold IsIdx; rw [List.getElem?_set_ne (by omega)]; exact hi
  have h12:h2[1]? = some [.tup [],.mp 0,.int .i64 (idxP p).length,posA (qs.filter fun r=>!(Nat.beq r q)),.int .i64 (q:Nat)]:=List.getElem?_set_self (by omega)
  have hO2:OutRc h2 out P:=hO.set1 _
  have hl2:h2.length=h.length:=List.length_set
  have he:=entry_at (h:=h2) h12 hi2 (by simp) hent
  have hcm:∀ r,cellsM 2 (refA r)=M.pure (refA r):=fun r=>by rw [cellsM_of (okEl_ref _),acells_ref,fold_ref]
  obtain ⟨J,hJ,hsp⟩:=t52 S hi2 k
  rw [if_pos hfk] at hsp
  have hlk:=look_ref (rowD_get h2 (reachD p k) J) f
  rw [getK_pre] at hlk
  have hp:=perm_filter hnd hq
  have hnl:(qs.filter fun r=>!(Nat.beq r q)).length=n:=by have:=hp.length_eq; simp only [List.length_cons] at this; omega
  have hlt2:∀ r∈qs.filter (fun r=>!(Nat.beq r q)),r < (idxP p).length:=fun r hr=>hlt r (List.mem_filter.1 hr).1
  have hO3:=hO2.grow (rowD (reachD p k) :: J)
  have hhl3:(h2++rowD (reachD p k) :: J).length=h.length + (1 + (reachD p k).length):=by simp [hl2,hJ]; omega
  have hi3:IsIdx p (h2++rowD (reachD p k) :: J) 0:=by unfold IsIdx; rw [List.getElem?_append_left (by omega)]; exact hi2
  have h13:(h2++rowD (reachD p k) :: J)[1]? = some [.tup [],.mp 0,.int .i64 (idxP p).length,posA (qs.filter fun r=>!(Nat.beq r q)),.int .i64 (q:Nat)]:=by rw [List.getElem?_append_left (by omega)]; exact h12
  have hres1:sortR (P++selQ p f qs)=sortR (P++selQ p f (q :: qs.filter fun r=>!(Nat.beq r q))):=sortR_of_perm ((selQ_perm p f hp).append_left P)
  rw [hres1,cntQ_perm p f hp]
  have hcnt:cntQ p f h.length (q :: qs.filter fun r=>!(Nat.beq r q))=cntQ p f (h.length + cntB p f q) (qs.filter fun r=>!(Nat.beq r q)):=rfl
  rw [hcnt]
  refine (bndR he).trans ?_
  simp [hcm]
  refine (bndR hsp).trans ?_
  refine (bndR hlk).trans ?_
  simp [hcm]
  have hB:buildSliceA T 42 1 [(0,refA k)] = some (refsA [k]):=rfl
  by_cases hu:usesB p f k g=true
  ·have hsel:selQ p f (q :: qs.filter fun r=>!(Nat.beq r q))=k :: selQ p f (qs.filter fun r=>!(Nat.beq r q)):=by
    unfold selQ
    rw [List.filter_cons_of_pos (by rw [hs]; exact hu),List.map_cons,hk]
   have hc1:cntB p f q=1 + (reachD p k).length + 1:=by unfold cntB; rw [hs,hk,if_pos hu]
   obtain ⟨out',h',a1,a2,a3,a4⟩:=hO3.put (by omega) (by omega) k
   have h4:=IH (qs.filter fun r=>!(Nat.beq r q)) (P++[k]) out' h' (.int .i64 (q:Nat)) hnl (nodup_filter hnd) hlt2 a2 (by simp; omega) (by unfold IsIdx; rw [a4 0 (by omega)]; exact hi3) (by rw [a4 1 (by omega)]; exact h13)
   rw [a3,hhl3] at h4
   have hu':(decide (f∈(reachD p k).map (·.1))&&g.pub)=true:=hu
   rw [if_pos hu',hsel,hc1]
   simp only [hB,bnd_some]
   refine (bndR a1).trans ?_
   rw [h4]
   simp only [List.append_assoc,List.cons_append,List.nil_append]
   congr 3
  ·have hsel:selQ p f (q :: qs.filter fun r=>!(Nat.beq r q))=selQ p f (qs.filter fun r=>!(Nat.beq r q)):=by
    unfold selQ
    rw [List.filter_cons_of_neg (by rw [hs]; exact hu)]
   have hc1:cntB p f q=1 + (reachD p k).length:=by unfold cntB; rw [hs,hk,if_neg hu]; rfl
   have h4:=IH (qs.filter fun r=>!(Nat.beq r q)) P out (h2++rowD (reachD p k) :: J) (.int .i64 (q:Nat)) hnl (nodup_filter hnd) hlt2 hO3 (by omega) hi3 h13
   rw [hhl3] at h4
   have hu':¬ (decide (f∈(reachD p k).map (·.1))&&g.pub)=true:=hu
   rw [if_neg hu',hsel,hc1]
   exact h4
theorem t41 {p:List Mod} (S:Sm p) (f:Ref):callW pg 41 [mods p,refA f] = M.pure (refsA (usersL p f)):=by
 rw [C41]
 have h3:∃ h',S41 (callW pg) fixW (mods p) (refA f) [] = .ok (refsA (usersL p f)) h':=by
  simp only [S41]
  rw [bndR (idx0 S)]
  have hr:rangeH T 110 (.mp 0) [[.tup ((idxP p).map (entA Fun.av))]] = .ok (.it 1) [[.tup ((idxP p).map (entA Fun.av))],[.tup [],.mp 0,.int .i64 (idxP p).length,posA (List.range (idxP p).length),.any]]:=by
   simp [rangeH,mt110]
  have:=loop41 S f _ (List.range (idxP p).length) [] .hn [[.tup ((idxP p).map (entA Fun.av))],[.tup [],.mp 0,.int .i64 (idxP p).length,posA (List.range (idxP p).length),.any]] .any rfl List.nodup_range (fun q hq=>List.mem_range.1 hq) .nil (by have:=S.idx; simp; omega) rfl rfl
  exact ⟨_,(bndR hr).trans this⟩
 obtain ⟨h',h3⟩:=h3
 simp only [cl_mods,cl_ref]
 exact isoR h3 (clean_refs _)
end Go.Proofs.YtnipfhmghjdnmaaGreat

namespace Go.Proofs.YtnipfhmghjdnmaaGreat
open Go Go.Av Go.Av.Ap
set_option maxRecDepth 100000
theorem lim_mk {o n:Int} {s m:Str} {ns:List Str} {es:List Exp} (h1:ns.length≤8796093022208) (h2:es.length≤140737488355328) (h3:∀ x∈es,x.Lim):(Exp.mk o n s m ns es).Lim:=fun k=>by
 cases k with
 | zero=>trivial
 | succ k=>exact ⟨h1,h2,fun x hx=>h3 x hx k⟩
theorem lim_zero:zeroE.Lim:=lim_mk (by simp) (by simp) (fun x hx=>by cases hx)
theorem body_lim {p:List Mod} (h:∀ m∈p,∀ f∈m.funcs,f.body.Lim) (r:Ref):(bodyR p r).Lim:=by
 unfold bodyR
 cases hf:findR p r with
 | none=>exact lim_zero
 | some g =>
  unfold findR at hf
  split at hf
  ·rename_i m hm
   exact h m (List.mem_of_find?_eq_some hm) g (List.mem_of_find?_eq_some hf)
  ·cases hf
theorem st {α β:Type} {m:M α} {a:α} {f:α→M β} {r:M β} (e:m=M.pure a) (h:f a=r):bnd m f=r:=by rw [e,bnd_pure]; exact h
theorem lftE {x:Option AV} {a:AV} (e:x=some a):lft x=M.pure a:=by rw [e]; rfl
theorem np {α:Type} {m:M α} {a:α} (e:m=M.pure a):noPan m=M.pure a:=by rw [e]; rfl
theorem gE {m:M (List AV)} {r:M (List AV)} (e:m=r):guardM (.bool true) true 1 m=r:=by rw [← e]; rfl
theorem hBr (x y:Str):buildA T false 37 [(0,.str x),(1,.str y)] = some (refA (x,y)):=rfl
theorem hB2r (x y:Ref):buildSliceA T 42 2 [(0,refA x),(1,refA y)] = some (refsA [x,y]):=rfl
theorem hcmr (r:Ref):cellsM 2 (refA r)=M.pure (refA r):=by rw [cellsM_of (okEl_ref _),acells_ref,fold_ref]
theorem hldr (r:Ref):loadA T 37 (.ip (acells (refA r)))=some (refA r):=rfl
end Go.Proofs.YtnipfhmghjdnmaaGreat

namespace Go.Proofs.YtnipfhmghjdnmaaGreat
open Go Go.Av Go.Av.Ap
set_option maxRecDepth 100000
theorem sm_few {p:List Mod} (hM:∀ m∈p,m.Lim) (h1:p.length≤9) (h2:∀ m∈p,m.funcs.length≤9):Sm p where
 len:=by omega
 funcs:=fun m hm=>by have:=h2 m hm; omega
 idx:=by
  have h3:=idx_len p
  have h4:=allR_len p h2
  have:p.length * 9≤9 * 9:=Nat.mul_le_mul_right 9 h1
  omega
 body:=body_lim fun m hm f hf=>((hM m hm).fns f hf).body
end Go.Proofs.YtnipfhmghjdnmaaGreat

namespace Go.Proofs.YtnipfhmghjdnmaaGreat
open Go Go.Av Go.Av.Ap
set_option maxRecDepth 100000
def useR (p:List Mod) (f:Ref) (r:Ref):Bool:=decide (r∈usersL p f)
theorem users_len {p:List Mod} (S:Sm p) (f:Ref):(usersL p f).length≤1000000:=by
 unfold usersL
 rw [sortR_len]
 have:=selQ_len p f (List.range (idxP p).length)
 rw [List.length_range] at this
 have:=S.idx
 omega
end Go.Proofs.YtnipfhmghjdnmaaGreat

namespace Go.Proofs.YtnipfhmghjdnmaaGreat
open Go Go.Av Go.Av.Ap
set_option maxRecDepth 100000
def findA (o:Option Fun):AV:=.tup [(o.getD zeroF).av,.bool o.isSome]
theorem zbuild:buildA T false 90 [] = some zeroF.av:=rfl
theorem nilFun (g:Fun):cellsNil 12 [] g.av=M.pure g.av:=by rw [cellsNil_of (okEl_fun g),acells_fun,fold_fun]
end Go.Proofs.YtnipfhmghjdnmaaGreat

namespace Go.Proofs.YtnipfhmghjdnmaaGreat
open Go Go.Av Go.Av.Ap
set_option maxRecDepth 100000
end Go.Proofs.YtnipfhmghjdnmaaGreat

namespace Go.Proofs.YtnipfhmghjdnmaaGreat
open Go Go.Av Go.Av.Ap
set_option maxRecDepth 100000
def AllOf (D:List (Ref×List Ref)) (A:List Ref):Prop:=Ord A∧∀ x,x∈A ↔ x∈D.map (·.1)
theorem AllOf.len {D:List (Ref×List Ref)} {A:List Ref} (h:AllOf D A):A.length≤D.length:=by
 have:=len_le_of_sub (l:=A) (m:=D.map (·.1)) (ord_nodup h.1) (fun x hx=>(h.2 x).1 hx)
 simpa using this
end Go.Proofs.YtnipfhmghjdnmaaGreat

namespace Go.Proofs.YtnipfhmghjdnmaaGreat
open Go Go.Av Go.Av.Ap
set_option maxRecDepth 100000
def stepU (p:List Mod) (f:Ref) (o:List Ref) (r:Ref):List Ref:=if useR p f r=true∧r ∉ o then putL o r else o
def GoodU (p:List Mod) (f:Ref) (o:List Ref):Prop:=Ord o∧∀ x∈o,x∈usersL p f
theorem GoodU.len {p:List Mod} {f:Ref} {o:List Ref} (S:Sm p) (h:GoodU p f o):o.length≤1000000:=by
 have:=len_le_of_sub (ord_nodup h.1) h.2
 have:=users_len S f
 omega
theorem GoodU.step {p:List Mod} {f:Ref} {o:List Ref} (h:GoodU p f o) (r:Ref):GoodU p f (stepU p f o r):=by
 unfold stepU
 split
 ·rename_i hc
  refine ⟨putL_ord r h.1,fun x hx=>?_⟩
  rcases (mem_putL r x o).1 hx with rfl | hx
  ·exact of_decide_eq_true hc.1
  ·exact h.2 x hx
 ·exact h
end Go.Proofs.YtnipfhmghjdnmaaGreat

namespace Go.Proofs.YtnipfhmghjdnmaaGreat
open Go Go.Av Go.Av.Ap
set_option maxRecDepth 100000
structure SB (s:Seen):Prop where
 sm:Sm s.prog
 len:s.prog.length≤1000000
 funcs:∀ m∈s.prog,m.funcs.length≤1000000
 vsns:s.vsns.length≤1000000
 calls:s.calls.length≤1000000
 args:∀ c∈s.calls,valsSz c.args≤4611686018427387904
 params:∀ m∈s.prog,∀ f∈m.funcs,f.params.length≤1000000
structure AB (a:Adv):Prop where
 ranges:a.ranges.length≤1000000
 cond:expLim a.cond
theorem t73 (m:Mod) (a:Adv):callW pg 73 [m.av,.ip (acells a.av)] = M.pure (.bool (m.name == a.name)):=by
 rw [C73]
 simp [S73,cl,cls]
theorem t75 (f:Fun) (a:Adv):callW pg 75 [f.av,.ip (acells a.av)] = M.pure (.bool (f.name == a.func)):=by
 rw [C75]
 simp [S75,cl,cls]
theorem adv_cl (g) (k:Nat) (a:Adv):cl g (.fn (.func k) [] [.ip (acells a.av)]) = .fn (.func k) [] [.ip (acells a.av)]:=by simp [cl,cls]
theorem idxM_adv (p:List Mod) (hp:p.length≤1000000) (a:Adv):callW pg 72 [mods p,.fn (.func 73) [] [.ip (acells a.av)]] = M.pure (.int .i64 (modAt p a.name)) :=
 t72 _ _ p (by omega) (fun g=>adv_cl g _ a) (fun x _=>t73 x a)
theorem idxF_adv (l:List Fun) (hp:l.length≤1000000) (a:Adv):callW pg 74 [funs l,.fn (.func 75) [] [.ip (acells a.av)]] = M.pure (.int .i64 (funAt l a.func)) :=
 t74 _ _ l (by omega) (fun g=>adv_cl g _ a) (fun x _=>t75 x a)
theorem clFind (o:Option Fun) (g):cl g (findA o)=findA o:=by simp [findA,cl,cls]
theorem badCases (s:Seen) (a:Adv):(modAt s.prog a.name < 0∧badX s a=none)∨∃ (k:Nat) (h:k < s.prog.length),modAt s.prog a.name=k ∧
  ((funAt s.prog[k].funcs a.func < 0∧badX s a=none)∨∃ (j:Nat) (h2:j < s.prog[k].funcs.length),funAt s.prog[k].funcs a.func=j∧badX s a=if k < s.vsns.length∧hasV a.ranges (s.vsns[k]?.getD default)=true then some s.prog[k].funcs[j] else none):=by
 unfold badX funcX
 rcases idx_find (F:=fun m:Mod=>m.name == a.name) s.prog 0 (by omega) with ⟨_,h2⟩ | ⟨k,hk,h1,_⟩
 ·exact .inl ⟨h2,by rw [if_pos (show modAt s.prog a.name < 0 from h2)]⟩
 ·right
  have h3:modAt s.prog a.name=k:=by unfold modAt; omega
  refine ⟨k,hk,h3,?_⟩
  have h4:¬ ((k:Int) < 0):=by omega
  have h5:(s.prog[k]?.getD default).funcs=s.prog[k].funcs:=by rw [List.getElem?_eq_getElem hk]; rfl
  rw [h3,if_neg h4]
  simp only [Int.toNat_natCast,h5]
  rcases idx_find (F:=fun f:Fun=>f.name == a.func) s.prog[k].funcs 0 (by omega) with ⟨_,g2⟩ | ⟨j,hj,g1,_⟩
  ·exact .inl ⟨g2,by rw [if_pos (show funAt s.prog[k].funcs a.func < 0 from g2)]⟩
  ·right
   have g3:funAt s.prog[k].funcs a.func=j:=by unfold funAt; omega
   refine ⟨j,hj,g3,?_⟩
   rw [g3,if_neg (by omega),Int.toNat_natCast,List.getElem?_eq_getElem hj]
theorem t39 {s:Seen} {a:Adv} (B:SB s) (A:AB a):callW pg 39 [s.av,a.av] = M.pure (findA (badX s a)):=by
 have hB1:=B.len
 have hB2:=B.vsns
 have hA:=A.ranges
 have h1:=idxM_adv s.prog hB1 a
 rw [C39,cl_seen,cl_adv]
 have key:S39 (callW pg) fixW s.av a.av=M.pure (findA (badX s a)):=by
  rw [acells_adv] at h1
  rcases badCases s a with ⟨h2,h3⟩ | ⟨k,hk,h2,h3⟩
  ·rw [h3]
   simp [S39,h1,h2,zbuild,findA]
  ·have hf:=B.funcs _ (List.getElem_mem hk)
   have h4:=idxF_adv s.prog[k].funcs hf a
   rw [acells_adv] at h4
   rw [h2] at h1
   have h5:¬ ((k:Int) < 0):=by omega
   by_cases hv:k < s.vsns.length
   ·have hv':¬ ((s.vsns.length:Int)≤k):=by omega
    have h6:=t22 a.ranges s.vsns[k] (by omega)
    have h7:s.vsns[k]?.getD default=s.vsns[k]:=by rw [List.getElem?_eq_getElem hv]; rfl
    rw [h7] at h3
    cases hh:hasV a.ranges s.vsns[k] with
    | false =>
     rw [hh] at h6 h3
     have h8:badX s a=none:=by
      rcases h3 with ⟨_,h3⟩ | ⟨j,hj,_,h3⟩
      ·exact h3
      ·rw [h3]; simp
     rw [h8]
     simp (disch:=omega) [S39,h1,h5,hv',IX23,h6,zbuild,findA]
    | true =>
     rw [hh] at h6 h3
     rcases h3 with ⟨g1,h3⟩ | ⟨j,hj,g1,h3⟩
     ·rw [h3]
      simp (disch:=omega) [S39,h1,h5,hv',IX23,IX22,h6,h4,g1,zbuild,findA]
     ·rw [g1] at h4
      rw [h3,if_pos ⟨hv,rfl⟩]
      have g2:¬ ((j:Int) < 0):=by omega
      simp (disch:=omega) [S39,h1,h5,hv',IX23,IX22,IX51,h6,h4,g2,findA]
   ·have hv':(s.vsns.length:Int)≤k:=by omega
    have h8:badX s a=none:=by
     rcases h3 with ⟨_,h3⟩ | ⟨j,hj,_,h3⟩
     ·exact h3
     ·rw [h3,if_neg (fun h=>hv h.1)]
    rw [h8]
    simp (disch:=omega) [S39,h1,h5,hv',zbuild,findA]
 rw [key]
 exact isoP_pure (clFind _)
def refO (b:Bool) (r:Ref):AV:=if b=true then .tup [refA r,.bool true] else .tup [refA ([],[]),.bool false]
theorem clRefO (b:Bool) (r:Ref) (g):cl g (refO b r)=refO b r:=by cases b <;> rfl
theorem hB0r:buildA T false 37 [] = some (refA ([],[])):=rfl
theorem hcnr (r:Ref):cellsNil 2 [] (refA r)=M.pure (refA r):=by rw [cellsNil_of (okEl_ref _),acells_ref,fold_ref]
theorem refFold (x y:Str):AV.agg [.str x,.str y] = refA (x,y):=rfl
theorem cFun12 (g:Fun):cellsM 12 g.av=M.pure g.av:=cellsM_fun g
theorem t10 {s:Seen} {a:Adv} (B:SB s) (A:AB a):callW pg 10 [s.av,a.av] = M.pure (refO (badX s a).isSome (badRef a)):=by
 have h1:=t39 B A
 rw [C10,cl_seen,cl_adv]
 have key:S10 (callW pg) fixW s.av a.av=M.pure (refO (badX s a).isSome (badRef a)):=by
  cases hb:badX s a with
  | none =>
   rw [hb] at h1
   simp [S10,h1,findA,hB0r,hcnr,refO,refFold]
  | some f =>
   rw [hb] at h1
   simp [S10,h1,findA,hBr,hcnr,refO,badRef,refFold]
 rw [key]
 exact isoP_pure (clRefO _ _)
theorem t13 {s:Seen} {a:Adv} (B:SB s) (A:AB a):callW pg 13 [s.av,a.av] = M.pure (refsA (couldX usersL s a)):=by
 have h1:=t10 B A
 have h2:=t41 B.sm (badRef a)
 rw [C13,cl_seen,cl_adv]
 unfold couldX
 have key:S13 (callW pg) fixW s.av a.av=M.pure (refsA (if (badX s a).isSome=true then usersL s.prog (badRef a) else [])):=by
  cases hb:(badX s a).isSome with
  | false =>
   rw [hb] at h1
   simp [S13,h1,refO,hcmr,refsA]
  | true =>
   rw [hb] at h1
   simp [S13,h1,refO,hcmr,h2]
 rw [key]
 exact isoP_pure (clean_refs _)
end Go.Proofs.YtnipfhmghjdnmaaGreat

namespace Go.Proofs.YtnipfhmghjdnmaaGreat
open Go Go.Av Go.Av.Ap
set_option maxRecDepth 100000
def CapE (Q:Prop) (most:Int) (m:M AV):Prop:=∃ n,m=M.pure (.int .i64 n)∧1≤n∧n≤most + 1∧(n≤most→Q)
theorem expsLim_of:(l:List Exp)→(∀ x∈l,expLim x)→expsLim l
 | [],_=>trivial
 | x :: l,h=>⟨h x List.mem_cons_self,expsLim_of l fun y hy=>h y (List.mem_cons_of_mem _ hy)⟩
theorem expLim_of {e:Exp} (h1:e.names.length≤8796093022208) (h2:e.args.length≤274877906944) (h3:∀ x∈e.args,expLim x):expLim e:=by
 obtain ⟨o,n,s,m,ns,es⟩:=e
 exact ⟨h1,h2,expsLim_of es h3⟩
def NodesOK (e:Exp):Prop:=∀ most depth:Int,0≤most→most≤1099511627→depth≤1099511627776→CapE (expLim e) most (callW pg 37 [e.av,.int .i64 most,.int .i64 depth])
theorem loop37 (e:Exp) (hL:e.Lim) (ih:∀ x∈e.args,NodesOK x) (most depth:Int) (h0:0≤most) (h1:most≤1099511627) (h2:depth≤1099511627776) (h3:1≤depth) :
  ∀ (r:Nat) (n i:Int),e.args.length - i.toNat=r→0≤i→i≤e.args.length→1≤n→n≤most + 1→i + 1≤n→CapE (e.args.length≤most∧∀ x∈e.args.drop i.toNat,expLim x) most (fixW (L37_0 (callW pg) fixW) [.int .i64 most,.int .i64 depth,.ip (acells e.av),.int .i64 n,.int .i64 i]):=by
 intro r
 induction r with
 | zero =>
  intro n i hr hi hb hn hm hin
  rw [FL37_0]
  simp only [L37_0]
  have h1:¬ (i < (e.args.length:Int)):=by omega
  simp [h1]
  exact ⟨n,rfl,hn,hm,fun h=>⟨by omega,fun x hx=>by rw [List.drop_eq_nil_of_le (by omega)] at hx; cases hx⟩⟩
 | succ r IH =>
  intro n i hr hi hb hn hm hin
  have hlen:=hL.len
  have h5:i < (e.args.length:Int):=by omega
  have hlt:i.toNat < e.args.length:=by omega
  rw [FL37_0]
  simp only [L37_0]
  by_cases hs:n≤most
  ·obtain ⟨k,hk,hk1,hk2,hk3⟩:=ih e.args[i.toNat] (List.getElem_mem hlt) (most - n) (depth - 1) (by omega) (by omega) (by omega)
   obtain ⟨n',q1,q2,q3,q4⟩:=IH (n + k) (i + 1) (by omega) (by omega) (by omega) (by omega) (by omega) (by omega)
   have h4:CapE (e.args.length≤most∧∀ x∈e.args.drop i.toNat,expLim x) most (fixW (L37_0 (callW pg) fixW) [.int .i64 most,.int .i64 depth,.ip (acells e.av),.int .i64 (n + k),.int .i64 (i + 1)]):=by
    by_cases hk4:k≤most - n
    ·refine ⟨n',q1,q2,q3,fun h=>⟨(q4 h).1,fun x hx=>?_⟩⟩
     rw [List.drop_eq_getElem_cons hlt] at hx
     rcases List.mem_cons.1 hx with rfl | hx
     ·exact hk3 hk4
     ·exact (q4 h).2 x (by rw [show (i + 1).toNat=i.toNat + 1 by omega]; exact hx)
    ·have hstop:fixW (L37_0 (callW pg) fixW) [.int .i64 most,.int .i64 depth,.ip (acells e.av),.int .i64 (n + k),.int .i64 (i + 1)] = M.pure (.int .i64 (n + k)):=by
      rw [FL37_0]
      simp only [L37_0]
      have h6:¬ (n + k≤most):=by omega
      simp [h6]
     exact ⟨n + k,hstop,by omega,by omega,fun h=>by omega⟩
   simp (disch:=omega) [h5,hs,IX29,wrap_in,hk]
   simpa using h4
  ·simp [h5,hs]
   exact ⟨n,rfl,hn,hm,fun h=>absurd h hs⟩
theorem t37:∀ (N:Nat) (e:Exp),SizeOf.sizeOf e≤N→e.Lim→NodesOK e:=by
 intro N
 induction N with
 | zero=>intro e he; cases e; simp at he
 | succ N ih =>
  intro e he hL most depth h0 h1 h2
  rw [C37]
  have h4:1≤depth→_:=fun h3=>loop37 e hL (fun x hx=>ih x (by have:=arg_size hx; omega) (hL.kid hx)) most depth h0 h1 h2 h3 e.args.length 1 0 rfl (by omega) (by omega) (by omega) (by omega) (by omega)
  simp [S37]
  by_cases hc:depth < 1
  ·rw [if_pos hc,wrap_in (by omega) (by omega),isoP_int]
   exact ⟨_,rfl,by omega,by omega,fun h=>by omega⟩
  ·rw [if_neg hc]
   obtain ⟨n,hn,b1,b2,b3⟩:=h4 (by omega)
   simp at hn
   rw [hn,isoP_int]
   refine ⟨n,rfl,b1,b2,fun h=>expLim_of hL.names ?_ fun x hx=>(b3 h).2 x (by simpa using hx)⟩
   have:=(b3 h).1
   omega
def KindsOK (e:Ty):Prop:=∀ most depth:Int,0≤most→most≤1099511627776→depth≤1099511627776→CapE True most (callW pg 71 [e.av,.int .i64 most,.int .i64 depth])
theorem fld_size {e:Ty} {x:Fld} (h:x∈e.fields):SizeOf.sizeOf x.2 < SizeOf.sizeOf e:=by
 cases e with
 | mk k fs =>
  have h1:=List.sizeOf_lt_of_mem h
  have h2:SizeOf.sizeOf x.2 < SizeOf.sizeOf x:=by cases x; simp; omega
  have h3:SizeOf.sizeOf x < SizeOf.sizeOf fs:=h1
  simp only [Ty.mk.sizeOf_spec]
  show SizeOf.sizeOf x.2 < 1 + SizeOf.sizeOf k + SizeOf.sizeOf fs
  omega
theorem loop71 (e:Ty) (hL:e.Lim) (ih:∀ x∈e.fields,KindsOK x.2) (most depth:Int) (h0:0≤most) (h1:most≤1099511627776) (h2:depth≤1099511627776) (h3:1≤depth) :
  ∀ (r:Nat) (n i:Int),e.fields.length - i.toNat=r→0≤i→i≤e.fields.length→1≤n→n≤most + 1→CapE True most (fixW (L71_0 (callW pg) fixW) [.int .i64 most,.int .i64 depth,.ip (acells e.av),.int .i64 n,.int .i64 i]):=by
 intro r
 induction r with
 | zero =>
  intro n i hr hi hb hn hm
  rw [FL71_0]
  simp only [L71_0]
  have h1:¬ (i < (e.fields.length:Int)):=by omega
  simp [h1]
  exact ⟨n,rfl,hn,hm,fun _=>trivial⟩
 | succ r IH =>
  intro n i hr hi hb hn hm
  have hlen:=hL.len
  have h5:i < (e.fields.length:Int):=by omega
  have hlt:i.toNat < e.fields.length:=by omega
  rw [FL71_0]
  simp only [L71_0]
  by_cases hs:n≤most
  ·obtain ⟨k,hk,hk1,hk2,_⟩:=ih e.fields[i.toNat] (List.getElem_mem hlt) (most - n) (depth - 1) (by omega) (by omega) (by omega)
   have h4:=IH (n + k) (i + 1) (by omega) (by omega) (by omega) (by omega) (by omega)
   simp (disch:=omega) [h5,hs,IX50,wrap_in,hk]
   simpa using h4
  ·simp [h5,hs]
   exact ⟨n,rfl,hn,hm,fun _=>trivial⟩
theorem t71:∀ (N:Nat) (e:Ty),SizeOf.sizeOf e≤N→e.Lim→KindsOK e:=by
 intro N
 induction N with
 | zero=>intro e he; cases e; simp at he
 | succ N ih =>
  intro e he hL most depth h0 h1 h2
  rw [C71]
  have h4:1≤depth→_:=fun h3=>loop71 e hL (fun x hx=>ih x.2 (by have:=fld_size hx; omega) (hL.kid hx)) most depth h0 h1 h2 h3 e.fields.length 1 0 rfl (by omega) (by omega) (by omega) (by omega)
  simp [S71]
  by_cases hc:depth < 1
  ·rw [if_pos hc,wrap_in (by omega) (by omega),isoP_int]
   exact ⟨_,rfl,by omega,by omega,fun _=>trivial⟩
  ·rw [if_neg hc]
   obtain ⟨n,hn,b⟩:=h4 (by omega)
   simp at hn
   rw [hn,isoP_int]
   exact ⟨n,rfl,b⟩
def BB (P:Prop) (m:M AV):Prop:=∃ b,m=M.pure (.bool b)∧(b=true→P)
theorem BB.no {P:Prop}:BB P (M.pure (.bool false)):=⟨false,rfl,fun h=>by cases h⟩
theorem BB.imp {P Q:Prop} {m:M AV} (h:BB P m) (f:P→Q):BB Q m:=by
 obtain ⟨b,h1,h2⟩:=h
 exact ⟨b,h1,fun e=>f (h2 e)⟩
theorem loop70 (l:List Fld) (hl:l.length≤140737488355328) (hL:∀ e∈l,e.2.Lim):∀ (r:Nat) (i:Int),l.length - i.toNat=r→0≤i→i≤l.length→BB (l.length≤8) (fixW (L70_0 (callW pg) fixW) [flds l,.int .i64 i]):=by
 intro r
 induction r with
 | zero =>
  intro i hr hi hb
  rw [FL70_0]
  simp only [L70_0]
  have h1:¬ (i < (l.length:Int)):=by omega
  simp [h1]
  exact ⟨_,rfl,fun h=>by simp at h; omega⟩
 | succ r IH =>
  intro i hr hi hb
  have h5:i < (l.length:Int):=by omega
  have hlt:i.toNat < l.length:=by omega
  rw [FL70_0]
  simp only [L70_0]
  by_cases hs:i < 9
  ·obtain ⟨k,hk,hk1,hk2,_⟩:=t71 _ l[i.toNat].2 (Nat.le_refl _) (hL _ (List.getElem_mem hlt)) 20 8 (by omega) (by omega) (by omega)
   have h4:=IH (i + 1) (by omega) (by omega) (by omega)
   simp (disch:=omega) [h5,hs,IX50,wrap_in,hk]
   by_cases hg:20 < k
   ·rw [if_pos hg]; exact .no
   ·rw [if_neg hg]; exact h4
  ·simp [h5,hs]
   refine ⟨_,rfl,fun h=>?_⟩
   simp at h
   omega
theorem t70 (l:List Fld) (hl:l.length≤140737488355328) (hL:∀ e∈l,e.2.Lim):BB (l.length≤8) (callW pg 70 [flds l]):=by
 rw [C70]
 obtain ⟨b,hb,h2⟩:=loop70 l hl hL l.length 0 rfl (by omega) (by omega)
 refine ⟨b,?_,h2⟩
 simp [S70,hb]
def CapV (F:Int→Prop) (most:Int) (m:M AV):Prop:=∃ n,m=M.pure (.int .i64 n)∧1≤n∧n≤most + 1∧(n≤most→F n)
def PartsOK (e:Val):Prop:=∀ most depth:Int,0≤most→most≤1000→depth≤1099511627776→CapV (fun n=>(e.sz:Int)≤140737488355341 * n) most (callW pg 38 [e.av,.int .i64 most,.int .i64 depth])
theorem loop38 (e:Val) (hL:e.Lim) (ih:∀ x∈e.values,PartsOK x) (most depth:Int) (h0:0≤most) (h1:most≤1000) (h2:depth≤1099511627776) (h3:1≤depth) :
  ∀ (r:Nat) (n i:Int),e.values.length - i.toNat=r→0≤i→i≤e.values.length→1≤n→n≤most + 1→CapV (fun k=>(valsSz (e.values.drop i.toNat):Int)≤140737488355341 * (k - n)) most (fixW (L38_0 (callW pg) fixW) [.int .i64 most,.int .i64 depth,.ip (acells e.av),.int .i64 n,.int .i64 i]):=by
 intro r
 induction r with
 | zero =>
  intro n i hr hi hb hn hm
  rw [FL38_0]
  simp only [L38_0]
  have h1:¬ (i < (e.values.length:Int)):=by omega
  simp [h1]
  exact ⟨n,rfl,hn,hm,fun h=>by rw [List.drop_eq_nil_of_le (by omega)]; simp [valsSz]⟩
 | succ r IH =>
  intro n i hr hi hb hn hm
  have hlen:=hL.len
  have h5:i < (e.values.length:Int):=by omega
  have hlt:i.toNat < e.values.length:=by omega
  by_cases hs:n≤most
  ·obtain ⟨k,hk,hk1,hk2,hk3⟩:=ih e.values[i.toNat] (List.getElem_mem hlt) (most - n) (depth - 1) (by omega) (by omega) (by omega)
   obtain ⟨n',q1,q2,q3,q4⟩:=IH (n + k) (i + 1) (by omega) (by omega) (by omega) (by omega) (by omega)
   have h4:CapV (fun k=>(valsSz (e.values.drop i.toNat):Int)≤140737488355341 * (k - n)) most (fixW (L38_0 (callW pg) fixW) [.int .i64 most,.int .i64 depth,.ip (acells e.av),.int .i64 (n + k),.int .i64 (i + 1)]):=by
    by_cases hk4:k≤most - n
    ·refine ⟨n',q1,q2,q3,fun h=>?_⟩
     have e1:=q4 h
     have e2:=hk3 hk4
     rw [List.drop_eq_getElem_cons hlt]
     simp only [valsSz]
     rw [show (i + 1).toNat=i.toNat + 1 by omega] at e1
     omega
    ·have hstop:fixW (L38_0 (callW pg) fixW) [.int .i64 most,.int .i64 depth,.ip (acells e.av),.int .i64 (n + k),.int .i64 (i + 1)] = M.pure (.int .i64 (n + k)):=by
      rw [FL38_0]
      simp only [L38_0]
      have h6:¬ (n + k≤most):=by omega
      simp [h6]
     exact ⟨n + k,hstop,by omega,by omega,fun h=>by omega⟩
   rw [FL38_0]
   simp only [L38_0]
   simp (disch:=omega) [h5,hs,IX61,wrap_in,hk]
   simpa using h4
  ·rw [FL38_0]
   simp only [L38_0]
   simp [h5,hs]
   exact ⟨n,rfl,hn,hm,fun h=>absurd h hs⟩
theorem val_size {e x:Val} (h:x∈e.values):SizeOf.sizeOf x < SizeOf.sizeOf e:=by
 cases e with
 | mk k n ns vs =>
  have h1:=List.sizeOf_lt_of_mem h
  have h3:SizeOf.sizeOf x < SizeOf.sizeOf vs:=h1
  simp only [Val.mk.sizeOf_spec]
  omega
theorem t38:∀ (N:Nat) (e:Val),SizeOf.sizeOf e≤N→e.Lim→PartsOK e:=by
 intro N
 induction N with
 | zero=>intro e he; cases e; simp at he
 | succ N ih =>
  intro e he hL most depth h0 h1 h2
  rw [C38]
  have h4:1≤depth→_:=fun h3=>loop38 e hL (fun x hx=>ih x (by have:=val_size hx; omega) (hL.kid hx)) most depth h0 h1 h2 h3 e.values.length 1 0 rfl (by omega) (by omega) (by omega) (by omega)
  simp [S38]
  by_cases hc:depth < 1
  ·rw [if_pos hc,wrap_in (by omega) (by omega),isoP_int]
   exact ⟨_,rfl,by omega,by omega,fun h=>by omega⟩
  ·rw [if_neg hc]
   obtain ⟨n,hn,b1,b2,b3⟩:=h4 (by omega)
   simp at hn
   rw [hn,isoP_int]
   refine ⟨n,rfl,b1,b2,fun h=>?_⟩
   have e1:=b3 h
   have e2:e.sz=1 + e.names.length + valsSz e.values:=by cases e; rfl
   have e3:=hL.names
   simp at e1
   rw [e2]
   omega
theorem hi29 (l:List Exp) {n:Int} (h0:0≤n) (h1:n≤l.length):sliceA T 29 (exps l) none (some (.int .i64 n)) none=some (exps (l.take n.toNat)):=by
 rw [exps,expsAv_map,exps,expsAv_map,sliceA_hi (T:=T) (t:=29) (e:=31) rfl rfl rfl _ h0 (by simpa using h1),List.map_take]
theorem loop360 (m:Mod) (M0:m.Lim) (l:List Exp) (hl:l.length≤20) (hL:∀ e∈l,e.Lim):∀ (r:Nat) (i:Int),l.length - i.toNat=r→0≤i→i≤l.length→BB True (fixW (L36_0 (callW pg) fixW) [.ip (acells m.av),exps l,.int .i64 i]):=by
 obtain ⟨b1,h1,_⟩:=t70 m.vars M0.vars M0.vty
 obtain ⟨b3,h3,_⟩:=t70 m.old M0.old M0.oty
 intro r
 induction r with
 | zero =>
  intro i hr hi hb
  have h5:¬ i < (l.length:Int):=by omega
  rw [FL36_0]
  simp only [L36_0]
  refine ⟨decide ((m.uses.length:Int)≤12)&&b1&&b3&&decide ((m.forward.length:Int)≤6)&&decide ((m.back.length:Int)≤6),?_,fun _=>trivial⟩
  simp [h5,h1,h3]
 | succ r IH =>
  intro i hr hi hb
  have h5:i < (l.length:Int):=by omega
  have hlt:i.toNat < l.length:=by omega
  obtain ⟨k,hk,_,_,_⟩:=t37 _ l[i.toNat] (Nat.le_refl _) (hL _ (List.getElem_mem hlt)) 40 16 (by omega) (by omega) (by omega)
  have h4:=IH (i + 1) (by omega) (by omega) (by omega)
  rw [FL36_0]
  simp only [L36_0]
  simp (disch:=omega) [h5,IX29,hk,wrap_in]
  split
  ·exact .no
  ·simpa using h4
theorem loop361 (m:Mod) (M0:m.Lim):∀ (r:Nat) (i:Int),m.funcs.length - i.toNat=r→0≤i→i≤m.funcs.length→BB True (fixW (L36_1 (callW pg) fixW) [.ip (acells m.av),.int .i64 i]):=by
 have hB:buildSliceA T 29 0 [] = some (exps []):=rfl
 have hfl:=M0.forward
 have hbl:=M0.back
 have hfu:=M0.funcs
 have hend:∀ i:Int,¬ (i < (m.funcs.length:Int))∨¬ i < 9→BB True (fixW (L36_1 (callW pg) fixW) [.ip (acells m.av),.int .i64 i]):=by
  intro i hi
  have e1:=hi29 m.forward (n:=min (m.forward.length:Int) 7) (by omega) (by omega)
  have e2:=hi29 m.back (n:=min (m.back.length:Int) 7) (by omega) (by omega)
  generalize hn1:(min (m.forward.length:Int) 7).toNat=n1 at e1
  generalize hn2:(min (m.back.length:Int) 7).toNat=n2 at e2
  have a1:appA T 29 (exps []) (exps (m.forward.take n1))=some (exps (m.forward.take n1)):=by
   have:=AP29 (a:=[]) (b:=m.forward.take n1) (by simp; omega)
   simpa using this
  have a2:appA T 29 (exps (m.forward.take n1)) (exps (m.back.take n2))=some (exps (m.forward.take n1++m.back.take n2)):=AP29 (by simp; omega)
  have h2:=loop360 m M0 (m.forward.take n1++m.back.take n2) (by simp; omega) (fun e he=>by
   rcases List.mem_append.1 he with h | h
   ·exact M0.fes _ (List.mem_of_mem_take h)
   ·exact M0.bes _ (List.mem_of_mem_take h)) _ 0 rfl (by omega) (by omega)
  simp at h2
  rw [FL36_1]
  simp only [L36_1]
  rcases hi with hi | hi
  ·simp [hi,hB,e1,e2,a1,a2,h2]
  ·by_cases h:i < (m.funcs.length:Int)
   ·simp [h,hi,hB,e1,e2,a1,a2,h2]
   ·simp [h,hB,e1,e2,a1,a2,h2]
 intro r
 induction r with
 | zero =>
  intro i hr hi hb
  exact hend i (.inl (by omega))
 | succ r IH =>
  intro i hr hi hb
  by_cases hs:i < 9
  ·have h5:i < (m.funcs.length:Int):=by omega
   have hlt:i.toNat < m.funcs.length:=by omega
   have hf:=M0.fns _ (List.getElem_mem hlt)
   obtain ⟨b7,h7,_⟩:=t70 m.funcs[i.toNat].params hf.params hf.pty
   obtain ⟨k,h8,_,_⟩:=t71 _ m.funcs[i.toNat].result (Nat.le_refl _) hf.result 20 8 (by omega) (by omega) (by omega)
   have h4:=IH (i + 1) (by omega) (by omega) (by omega)
   rw [FL36_1]
   simp only [L36_1]
   simp (disch:=omega) [h5,hs,IX51,h7,h8,wrap_in]
   split
   ·exact .no
   ·simpa using h4
  ·exact hend i (.inr hs)
theorem t36 (m:Mod) (M0:m.Lim):BB True (callW pg 36 [m.av]):=by
 rw [C36]
 obtain ⟨b,hb,h2⟩:=loop361 m M0 _ 0 rfl (by omega) (by omega)
 simp at hb
 exact ⟨b,by simp [S36,hb],h2⟩
theorem few0 (K:List AV→M AV) {Q:Prop} (s:Seen) (a:Adv) (i:Int) (hi0:0≤i) (hi1:i≤9) (him:i.toNat < s.prog.length) (M0:s.prog[i.toNat].Lim) (hF:s.prog[i.toNat].funcs.length≤4) (hK:BB Q (K [.ip (acells s.av),.ip (acells a.av),.int .i64 (i + 1)])):∀ (r:Nat) (j:Int),s.prog[i.toNat].funcs.length - j.toNat=r→0≤j→j≤s.prog[i.toNat].funcs.length →
  BB ((∀ f∈s.prog[i.toNat].funcs.drop j.toNat,f.params.length≤6)∧Q) (fixW (L9_0 (callW pg) fixW K) [.ip (acells s.av),.ip (acells a.av),.int .i64 i,.int .i64 j]):=by
 have hml:i < (s.prog.length:Int):=by omega
 intro r
 induction r with
 | zero =>
  intro j hr hj hb
  have h1:¬ j < (s.prog[i.toNat].funcs.length:Int):=by omega
  rw [FL9_0]
  simp only [L9_0]
  simp at hK
  simp (disch:=omega) [IX22,h1,wrap_in]
  refine hK.imp fun q=>⟨fun f hf=>?_,q⟩
  rw [List.drop_eq_nil_of_le (by omega)] at hf
  cases hf
 | succ r IH =>
  intro j hr hj hb
  have h1:j < (s.prog[i.toNat].funcs.length:Int):=by omega
  have hlt:j.toNat < s.prog[i.toNat].funcs.length:=by omega
  obtain ⟨k,hk,_,_,_⟩:=t37 _ s.prog[i.toNat].funcs[j.toNat].body (Nat.le_refl _) (M0.fns _ (List.getElem_mem hlt)).body 40 16 (by omega) (by omega) (by omega)
  have h4:=IH (j + 1) (by omega) (by omega) (by omega)
  rw [FL9_0]
  simp only [L9_0]
  simp (disch:=omega) [IX22,h1,IX51,hk,wrap_in]
  split
  ·exact .no
  ·rename_i hno
   have hg:s.prog[i.toNat].funcs[j.toNat].params.length≤6:=by simp at hno; omega
   have h5:=h4.imp (Q:=(∀ f∈s.prog[i.toNat].funcs.drop j.toNat,f.params.length≤6)∧Q) fun h=>⟨fun f hf=>by
    rw [List.drop_eq_getElem_cons hlt] at hf
    rcases List.mem_cons.1 hf with rfl | hf
    ·exact hg
    ·exact h.1 f (by rw [show (j + 1).toNat=j.toNat + 1 by omega]; exact hf),h.2⟩
   simpa using h5
theorem few1 (K:List AV→M AV) {Q:Prop} (s:Seen) (a:Adv) (i:Int) (hi0:0≤i) (hi1:i≤9) (him:i.toNat < s.prog.length) (M0:s.prog[i.toNat].Lim) (hF:s.prog[i.toNat].funcs.length≤4) (hI:s.prog[i.toNat].init.length≤4) (hK:BB Q (K [.ip (acells s.av),.ip (acells a.av),.int .i64 (i + 1)])):∀ (r:Nat) (j:Int),s.prog[i.toNat].init.length - j.toNat=r→0≤j→j≤s.prog[i.toNat].init.length →
  BB ((∀ f∈s.prog[i.toNat].funcs,f.params.length≤6)∧Q) (fixW (L9_1 (callW pg) fixW K) [.ip (acells s.av),.ip (acells a.av),.int .i64 i,.int .i64 j]):=by
 have hml:i < (s.prog.length:Int):=by omega
 intro r
 induction r with
 | zero =>
  intro j hr hj hb
  have h1:¬ j < (s.prog[i.toNat].init.length:Int):=by omega
  have h2:=few0 K s a i hi0 hi1 him M0 hF hK _ 0 rfl (by omega) (by omega)
  rw [FL9_1]
  simp only [L9_1]
  simp at h2
  simp (disch:=omega) [IX22,h1,wrap_in]
  exact h2
 | succ r IH =>
  intro j hr hj hb
  have h1:j < (s.prog[i.toNat].init.length:Int):=by omega
  have hlt:j.toNat < s.prog[i.toNat].init.length:=by omega
  obtain ⟨k,hk,_,_,_⟩:=t37 _ s.prog[i.toNat].init[j.toNat] (Nat.le_refl _) (M0.ies _ (List.getElem_mem hlt)) 40 16 (by omega) (by omega) (by omega)
  have h4:=IH (j + 1) (by omega) (by omega) (by omega)
  rw [FL9_1]
  simp only [L9_1]
  simp at h4
  simp (disch:=omega) [IX22,h1,IX29,hk,wrap_in]
  split
  ·exact .no
  ·exact h4
theorem few2 (K:List AV→M AV) {Q:Prop} (s:Seen) (a:Adv) (i:Int) (hi0:0≤i) (hi1:i≤13) (him:i.toNat < s.calls.length) (M0:CallLim s.calls[i.toNat]) (hF:s.calls[i.toNat].args.length≤6) (hK:BB Q (K [.ip (acells s.av),.ip (acells a.av),.int .i64 (i + 1)])):∀ (r:Nat) (j:Int),s.calls[i.toNat].args.length - j.toNat=r→0≤j→j≤s.calls[i.toNat].args.length →
  BB ((valsSz (s.calls[i.toNat].args.drop j.toNat)≤140737488355341 * 30 * (s.calls[i.toNat].args.length - j.toNat))∧Q) (fixW (L9_2 (callW pg) fixW K) [.ip (acells s.av),.ip (acells a.av),.int .i64 i,.int .i64 j]):=by
 have hml:i < (s.calls.length:Int):=by omega
 intro r
 induction r with
 | zero =>
  intro j hr hj hb
  have h1:¬ j < (s.calls[i.toNat].args.length:Int):=by omega
  rw [FL9_2]
  simp only [L9_2]
  simp at hK
  simp (disch:=omega) [IX24,h1,wrap_in]
  refine hK.imp fun q=>⟨?_,q⟩
  rw [List.drop_eq_nil_of_le (by omega)]
  simp [valsSz]
 | succ r IH =>
  intro j hr hj hb
  have h1:j < (s.calls[i.toNat].args.length:Int):=by omega
  have hlt:j.toNat < s.calls[i.toNat].args.length:=by omega
  obtain ⟨k,hk,hk1,hk2,hk3⟩:=t38 _ s.calls[i.toNat].args[j.toNat] (Nat.le_refl _) (M0.args _ (List.getElem_mem hlt)) 30 8 (by omega) (by omega) (by omega)
  have h4:=IH (j + 1) (by omega) (by omega) (by omega)
  rw [FL9_2]
  simp only [L9_2]
  simp (disch:=omega) [IX24,h1,IX61,hk,wrap_in]
  by_cases hg:30 < k
  ·rw [if_pos hg]; exact .no
  ·rw [if_neg hg]
   have h5:=h4.imp (Q:=(valsSz (s.calls[i.toNat].args.drop j.toNat)≤140737488355341 * 30 * (s.calls[i.toNat].args.length - j.toNat))∧Q) fun h=>⟨by
    have e1:=hk3 (by omega)
    have e2:=h.1
    rw [List.drop_eq_getElem_cons hlt]
    rw [show (j + 1).toNat=j.toNat + 1 by omega] at e2
    simp only [valsSz]
    omega,h.2⟩
   simpa using h5
def FewQ (s:Seen) (a:Adv):Prop:=s.prog.length≤4∧s.vsns.length≤6∧s.calls.length≤12∧a.ranges.length≤6∧expLim a.cond
theorem few3 (s:Seen) (a:Adv) (S0:s.Lim) (A0:a.Lim):∀ (r:Nat) (i:Int),s.calls.length - i.toNat=r→0≤i→i≤s.calls.length →
  BB ((∀ c∈s.calls.drop i.toNat,valsSz c.args≤4611686018427387904)∧FewQ s a) (fixW (L9_3 (callW pg) fixW) [.ip (acells s.av),.ip (acells a.av),.int .i64 i]):=by
 obtain ⟨k,hk,_,_,hk3⟩:=t37 _ a.cond (Nat.le_refl _) A0.cond 30 16 (by omega) (by omega) (by omega)
 have hend:∀ i:Int,¬ (i < (s.calls.length:Int))∨¬ i < 13→fixW (L9_3 (callW pg) fixW) [.ip (acells s.av),.ip (acells a.av),.int .i64 i] = M.pure (.bool (decide ((s.prog.length:Int)≤4)&&decide ((s.vsns.length:Int)≤6)&&decide ((s.calls.length:Int)≤12)&&decide ((a.ranges.length:Int)≤6)&&decide (k≤30))):=by
  intro i hi
  rw [FL9_3]
  simp only [L9_3]
  rcases hi with hi | hi
  ·simp [hi,hk]
  ·by_cases h:i < (s.calls.length:Int)
   ·simp [h,hi,hk]
   ·simp [h,hk]
 have hq:(decide ((s.prog.length:Int)≤4)&&decide ((s.vsns.length:Int)≤6)&&decide ((s.calls.length:Int)≤12)&&decide ((a.ranges.length:Int)≤6)&&decide (k≤30))=true→FewQ s a:=fun h=>by
  simp only [Bool.and_eq_true,decide_eq_true_eq] at h
  exact ⟨by omega,by omega,by omega,by omega,hk3 h.2⟩
 intro r
 induction r with
 | zero =>
  intro i hr hi hb
  rw [hend i (.inl (by omega))]
  refine ⟨_,rfl,fun h=>⟨fun c hc=>?_,hq h⟩⟩
  rw [List.drop_eq_nil_of_le (by omega)] at hc
  cases hc
 | succ r IH =>
  intro i hr hi hb
  have h1:i < (s.calls.length:Int):=by omega
  have hlt:i.toNat < s.calls.length:=by omega
  by_cases hs:i < 13
  ·by_cases hF:(6:Int) < (s.calls[i.toNat].args.length:Int)
   ·rw [FL9_3]
    simp only [L9_3]
    simp (disch:=omega) [h1,hs,IX24,hF]
    exact .no
   ·have h4:=few2 _ s a i hi (by omega) hlt (S0.calls _ (List.getElem_mem hlt)) (by omega) (IH (i + 1) (by omega) (by omega) (by omega)) _ 0 rfl (by omega) (by omega)
    have h5:=h4.imp (Q:=(∀ c∈s.calls.drop i.toNat,valsSz c.args≤4611686018427387904)∧FewQ s a) fun h=>⟨fun c hc=>by
     rw [List.drop_eq_getElem_cons hlt] at hc
     rcases List.mem_cons.1 hc with rfl | hc
     ·have e:=h.1
      simp at e
      omega
     ·exact h.2.1 c (by rw [show (i + 1).toNat=i.toNat + 1 by omega]; exact hc),h.2.2⟩
    rw [FL9_3]
    simp only [L9_3]
    simp at h5
    simp (disch:=omega) [h1,hs,IX24,hF]
    exact h5
  ·rw [hend i (.inr hs)]
   refine ⟨_,rfl,fun h=>?_⟩
   have:=(hq h).2.2.1
   omega
theorem few4 (s:Seen) (a:Adv) (S0:s.Lim) (A0:a.Lim):∀ (r:Nat) (i:Int),s.prog.length - i.toNat=r→0≤i→i≤s.prog.length →
  BB ((∀ m∈s.prog.drop i.toNat,m.funcs.length≤4∧∀ f∈m.funcs,f.params.length≤6)∧(∀ c∈s.calls,valsSz c.args≤4611686018427387904)∧FewQ s a) (fixW (L9_4 (callW pg) fixW) [.ip (acells s.av),.ip (acells a.av),.int .i64 i]):=by
 have h3:=few3 s a S0 A0 _ 0 rfl (by omega) (by omega)
 have hend:∀ i:Int,¬ (i < (s.prog.length:Int))∨¬ i < 5→fixW (L9_4 (callW pg) fixW) [.ip (acells s.av),.ip (acells a.av),.int .i64 i] = fixW (L9_3 (callW pg) fixW) [.ip (acells s.av),.ip (acells a.av),.int .i64 0]:=by
  intro i hi
  rw [FL9_4]
  simp only [L9_4]
  rcases hi with hi | hi
  ·simp [hi]
  ·by_cases h:i < (s.prog.length:Int)
   ·simp [h,hi]
   ·simp [h]
 intro r
 induction r with
 | zero =>
  intro i hr hi hb
  rw [hend i (.inl (by omega))]
  refine h3.imp fun h=>⟨fun c hc=>?_,by simpa using h.1,h.2⟩
  rw [List.drop_eq_nil_of_le (by omega)] at hc
  cases hc
 | succ r IH =>
  intro i hr hi hb
  have h1:i < (s.prog.length:Int):=by omega
  have hlt:i.toNat < s.prog.length:=by omega
  by_cases hs:i < 5
  ·obtain ⟨b,hb1,_⟩:=t36 s.prog[i.toNat] (S0.mods _ (List.getElem_mem hlt))
   by_cases hF:(4:Int) < (s.prog[i.toNat].funcs.length:Int)
   ·rw [FL9_4]
    simp only [L9_4]
    simp (disch:=omega) [h1,hs,IX22,hF]
    exact .no
   by_cases hV:(4:Int) < (s.prog[i.toNat].vars.length:Int)
   ·rw [FL9_4]
    simp only [L9_4]
    simp (disch:=omega) [h1,hs,IX22,hF,hV]
    exact .no
   by_cases hI:(4:Int) < (s.prog[i.toNat].init.length:Int)
   ·rw [FL9_4]
    simp only [L9_4]
    simp (disch:=omega) [h1,hs,IX22,hF,hV,hI]
    exact .no
   cases b with
   | false =>
    rw [FL9_4]
    simp only [L9_4]
    simp (disch:=omega) [h1,hs,IX22,hF,hV,hI,hb1]
    exact .no
   | true =>
    have h4:=few1 _ s a i hi (by omega) hlt (S0.mods _ (List.getElem_mem hlt)) (by omega) (by omega) (IH (i + 1) (by omega) (by omega) (by omega)) _ 0 rfl (by omega) (by omega)
    have h5:=h4.imp (Q:=(∀ m∈s.prog.drop i.toNat,m.funcs.length≤4∧∀ f∈m.funcs,f.params.length≤6)∧(∀ c∈s.calls,valsSz c.args≤4611686018427387904)∧FewQ s a) fun h=>⟨fun c hc=>by
     rw [List.drop_eq_getElem_cons hlt] at hc
     rcases List.mem_cons.1 hc with rfl | hc
     ·exact ⟨by omega,h.1⟩
     ·exact h.2.1 c (by rw [show (i + 1).toNat=i.toNat + 1 by omega]; exact hc),h.2.2⟩
    rw [FL9_4]
    simp only [L9_4]
    simp at h5
    simp (disch:=omega) [h1,hs,IX22,hF,hV,hI,hb1]
    exact h5
  ·rw [hend i (.inr hs)]
   obtain ⟨b,e,hb⟩:=h3
   refine ⟨b,e,fun h=>?_⟩
   have:=(hb h).2.1
   omega
structure FewB (s:Seen):Prop where
 len:s.prog.length≤4
 funcs:∀ m∈s.prog,m.funcs.length≤4
 vsns:s.vsns.length≤6
 calls:s.calls.length≤12
theorem t9 {s:Seen} {a:Adv} (S0:s.Lim) (A0:a.Lim):BB ((SB s∧AB a)∧FewB s) (callW pg 9 [s.av,a.av]):=by
 rw [C9,cl_seen,cl_adv]
 obtain ⟨b,hb,h2⟩:=few4 s a S0 A0 _ 0 rfl (by omega) (by omega)
 refine ⟨b,?_,fun h=>?_⟩
 ·simp at hb
  have key:S9 (callW pg) fixW s.av a.av=M.pure (.bool b):=by simp [S9,hb]
  rw [key]
  exact isoP_bool b
 ·obtain ⟨q1,q2,q3,q4,q5,q6,q7⟩:=h2 h
  simp at q1
  refine ⟨⟨⟨sm_few S0.mods (by omega) fun m hm=>by have:=(q1 m hm).1; omega,by omega,fun m hm=>by have:=(q1 m hm).1; omega,by omega,by omega,q2,fun m hm f hf=>by have:=(q1 m hm).2 f hf; omega⟩,⟨by omega,q7⟩⟩,by omega,fun m hm=>(q1 m hm).1,q4,q5⟩
end Go.Proofs.YtnipfhmghjdnmaaGreat

namespace Go.Proofs.YtnipfhmghjdnmaaGreat
open Go Go.Av Go.Av.Ap
set_option maxRecDepth 100000
theorem loop12 (a b:List Ref) (hab:a.length=b.length) (hb:a.length≤40000000):∀ (n:Nat) (i:Int),a.length - i.toNat=n→0≤i→i≤a.length→fixW (L12_0 (callW pg) fixW) [refsA a,refsA b,.int .i64 i] = M.pure (.bool (decide (a.drop i.toNat=b.drop i.toNat))):=by
 intro n
 have h3:∀ l,lenA T 42 (refsA l)=some (.int .i64 l.length):=fun l=>by simp [refsA]
 induction n with
 | zero =>
  intro i hn hi hl
  rw [FL12_0]
  simp only [L12_0]
  have h1:¬ (i < (a.length:Int)):=by omega
  have h2:a.drop i.toNat = []:=List.drop_eq_nil_of_le (by omega)
  have h4:b.drop i.toNat = []:=List.drop_eq_nil_of_le (by omega)
  simp [h1,h2,h3,h4]
 | succ n ih =>
  intro i hn hi hl
  have h1:i < (a.length:Int):=by omega
  have hlt:i.toNat < a.length:=by omega
  have hlb:i.toNat < b.length:=by omega
  have h4:=ih (i + 1) (by omega) (by omega) (by omega)
  rw [show (i + 1).toNat=i.toNat + 1 by omega] at h4
  rw [FL12_0]
  simp only [L12_0]
  have h5:(a.drop i.toNat=b.drop i.toNat) ↔ (a[i.toNat] = b[i.toNat]∧a.drop (i.toNat + 1)=b.drop (i.toNat + 1)):=by
   rw [List.drop_eq_getElem_cons hlt,List.drop_eq_getElem_cons hlb,List.cons.injEq]
  have h7:i < (b.length:Int):=by omega
  simp (disch:=omega) [h1,h3,wrap_in,IX42,h4,binNe]
  simp only [h5]
  by_cases h6:a[i.toNat] = b[i.toNat]
  ·simp [h6]
  ·simp [h6]
theorem t12 (a b:List Ref) (hb:a.length≤40000000):callW pg 12 [refsA a,refsA b] = M.pure (.bool (decide (a=b))):=by
 have h3:∀ l,lenA T 42 (refsA l)=some (.int .i64 l.length):=fun l=>by simp [refsA]
 rw [C12]
 by_cases hab:a.length=b.length
 ·have:=loop12 a b hab hb a.length 0 rfl (by omega) (by omega)
  simp at this
  have hc:(a.length:Int)=b.length:=by omega
  simp [S12,h3,hc,this]
 ·have hc:¬ (a.length:Int)=b.length:=by omega
  have hne:¬ a=b:=fun e=>hab (by rw [e])
  simp [S12,h3,hab,hne]
theorem loop15 (a b:List Int) (hab:a.length=b.length) (hb:a.length≤40000000):∀ (n:Nat) (i:Int),a.length - i.toNat=n→0≤i→i≤a.length→fixW (L15_0 (callW pg) fixW) [ints a,ints b,.int .i64 i] = M.pure (.bool (decide (a.drop i.toNat=b.drop i.toNat))):=by
 intro n
 induction n with
 | zero =>
  intro i hn hi hl
  rw [FL15_0]
  simp only [L15_0]
  have h1:¬ (i < (a.length:Int)):=by omega
  have h2:a.drop i.toNat = []:=List.drop_eq_nil_of_le (by omega)
  have h4:b.drop i.toNat = []:=List.drop_eq_nil_of_le (by omega)
  simp [h1,h2,h4]
 | succ n ih =>
  intro i hn hi hl
  have h1:i < (a.length:Int):=by omega
  have hlt:i.toNat < a.length:=by omega
  have hlb:i.toNat < b.length:=by omega
  have h4:=ih (i + 1) (by omega) (by omega) (by omega)
  rw [show (i + 1).toNat=i.toNat + 1 by omega] at h4
  rw [FL15_0]
  simp only [L15_0]
  have h5:(a.drop i.toNat=b.drop i.toNat) ↔ (a[i.toNat] = b[i.toNat]∧a.drop (i.toNat + 1)=b.drop (i.toNat + 1)):=by
   rw [List.drop_eq_getElem_cons hlt,List.drop_eq_getElem_cons hlb,List.cons.injEq]
  have h7:i < (b.length:Int):=by omega
  simp (disch:=omega) [h1,wrap_in,IX45,h4]
  simp only [h5]
  by_cases h6:a[i.toNat] = b[i.toNat]
  ·simp [h6]
  ·simp [h6]
theorem t15 (a b:List Int) (hb:a.length≤40000000):callW pg 15 [ints a,ints b] = M.pure (.bool (decide (a=b))):=by
 rw [C15]
 by_cases hab:a.length=b.length
 ·have:=loop15 a b hab hb a.length 0 rfl (by omega) (by omega)
  simp at this
  have hc:(a.length:Int)=b.length:=by omega
  simp [S15,hc,this]
 ·have hc:¬ (a.length:Int)=b.length:=by omega
  have hne:¬ a=b:=fun e=>hab (by rw [e])
  simp [S15,hab,hne]
end Go.Proofs.YtnipfhmghjdnmaaGreat

namespace Go.Proofs.YtnipfhmghjdnmaaGreat
open Go Go.Av Go.Av.Ap
set_option maxRecDepth 100000
def condX:Rs Val→Bool×Bool
 | .ok v _=>if v.kind=1 then (v.n == 1,false) else (false,true)
 | .er _ _=>(false,true)
def pairB (x:Bool×Bool):AV:=.tup [.bool x.1,.bool x.2]
theorem meets_eq (f:Fun) (a:Adv) (c:Ap.Call):meetsX f a c=if c.module=a.name∧c.func=a.func∧c.args.length=f.params.length then condX (expX a.cond (f.params.map (·.1)) c.args) else (false,false):=by
 unfold meetsX
 by_cases h:c.module=a.name∧c.func=a.func∧c.args.length=f.params.length
 ·rw [if_pos h,if_pos h]
  cases expX a.cond (f.params.map (·.1)) c.args <;> rfl
 ·rw [if_neg h,if_neg h]
theorem loop43 (a:Adv) (A:AB a) (c:Ap.Call) (hc:valsSz c.args≤4611686018427387904) (ps:List Fld) (hp:ps.length≤1000000):∀ (n:Nat) (i:Int) (ns:List Str),ps.length - i.toNat=n→0≤i→i≤ps.length→ns.length≤i.toNat →
  fixW (L43_0 (callW pg) fixW) [.ip (acells a.av),.ip (acells c.av),strs ns,flds ps,.int .i64 ps.length,.int .i64 i] = M.pure (pairB (condX (expX a.cond (ns++(ps.drop i.toNat).map (·.1)) c.args))):=by
 have hB:∀ s:Str,buildSliceA T 28 1 [(0,.str s)] = some (strs [s]):=fun s=>rfl
 intro n
 induction n with
 | zero =>
  intro i ns hn hi hl hns
  have h1:¬ (i < (ps.length:Int)):=by omega
  have h2:ps.drop i.toNat = []:=List.drop_eq_nil_of_le (by omega)
  have h3:=t51 a.cond ns c.args A.cond (by omega) hc
  rw [FL43_0,h2]
  simp only [L43_0,List.map_nil,List.append_nil]
  cases hr:expX a.cond ns c.args with
  | ok v s =>
   rw [hr] at h3
   simp only [pairOf] at h3
   by_cases hk:v.kind=1
   ·by_cases h4:v.n=1
    ·simp [h1,h3,condX,pairB,hk,h4]
    ·simp [h1,h3,condX,pairB,hk]
   ·simp [h1,h3,condX,pairB,hk]
  | er e s =>
   rw [hr] at h3
   simp only [pairOf] at h3
   by_cases he:e=0
   ·have hk0:¬ (default:Val).kind=1:=by decide
    simp [h1,h3,condX,pairB,he,hk0]
   ·simp [h1,h3,condX,pairB,he]
 | succ n ih =>
  intro i ns hn hi hl hns
  have h1:i < (ps.length:Int):=by omega
  have hlt:i.toNat < ps.length:=by omega
  have h4:=ih (i + 1) (ns++[ps[i.toNat].1]) (by omega) (by omega) (by omega) (by simp; omega)
  have h5:appA T 28 (strs ns) (strs [ps[i.toNat].1])=some (strs (ns++[ps[i.toNat].1])):=AP28 (by simp; omega)
  rw [show (i + 1).toNat=i.toNat + 1 by omega] at h4
  rw [FL43_0,List.drop_eq_getElem_cons hlt,List.map_cons]
  simp only [L43_0]
  simp only [List.append_assoc,List.singleton_append] at h4
  rw [← h4]
  simp (disch:=omega) [h1,wrap_in,IX50,hB,h5]
theorem t43 {a:Adv} (A:AB a) (f:Fun) (hf:f.params.length≤1000000) (c:Ap.Call) (hc:valsSz c.args≤4611686018427387904):callW pg 43 [f.av,a.av,c.av] = M.pure (pairB (meetsX f a c)):=by
 have h1:=loop43 a A c hc f.params hf _ 0 [] rfl (by omega) (by omega) (by simp)
 rw [C43,cl_fun,cl_adv,cl_call,meets_eq]
 rw [show strs [] = AV.sl [] from rfl] at h1
 simp at h1
 have key:S43 (callW pg) fixW f.av a.av c.av=M.pure (pairB (if c.module=a.name∧c.func=a.func∧c.args.length=f.params.length then condX (expX a.cond (f.params.map (·.1)) c.args) else (false,false))):=by
  by_cases g1:c.module=a.name
  ·by_cases g2:c.func=a.func
   ·by_cases g3:c.args.length=f.params.length
    ·have g4:(c.args.length:Int)=f.params.length:=by omega
     rw [if_pos ⟨g1,g2,g3⟩]
     simp [S43,g1,g2,g4]
     rw [g1,g2] at h1
     exact h1
    ·have g4:¬ (c.args.length:Int)=f.params.length:=by omega
     rw [if_neg (fun h=>g3 h.2.2)]
     simp [S43,g1,g2,g3,pairB]
   ·rw [if_neg (fun h=>g2 h.2.1)]
    simp [S43,g1,g2,pairB]
  ·rw [if_neg (fun h=>g1 h.1)]
   simp [S43,g1,pairB]
 rw [key]
 exact isoP_pure fun g=>by simp [pairB,cl,cls]
theorem loop16 {a:Adv} (A:AB a) (f:Fun) (hf:f.params.length≤1000000) (cs:List Ap.Call) (hl:cs.length≤1000000) (hc:∀ c∈cs,valsSz c.args≤4611686018427387904):∀ (n:Nat) (i:Int) (o:List Int),cs.length - i.toNat=n→0≤i→i≤cs.length→o.length≤i.toNat →
  fixW (L16_0 (callW pg) fixW) [.ip (acells a.av),.ip (acells f.av),ints o,Ap.calls cs,.int .i64 cs.length,.int .i64 i] = M.pure (ints (o++idxL (fun c=>(meetsX f a c).1) (cs.drop i.toNat) i)):=by
 have hB:∀ k:Int,buildSliceA T 45 1 [(0,.int .i64 k)] = some (ints [k]):=fun k=>rfl
 intro n
 induction n with
 | zero =>
  intro i o hn hi hl hns
  have h1:¬ (i < (cs.length:Int)):=by omega
  have h2:cs.drop i.toNat = []:=List.drop_eq_nil_of_le (by omega)
  rw [FL16_0,h2]
  simp only [L16_0]
  simp [h1,idxL]
 | succ n ih =>
  intro i o hn hi hl hns
  have h1:i < (cs.length:Int):=by omega
  have hlt:i.toNat < cs.length:=by omega
  have h3:=t43 A f hf cs[i.toNat] (hc _ (List.getElem_mem hlt))
  rw [FL16_0,List.drop_eq_getElem_cons hlt]
  simp only [L16_0,idxL]
  simp only [pairB] at h3
  rcases Bool.eq_false_or_eq_true (meetsX f a cs[i.toNat]).1 with hm | hm
  ·have h4:=ih (i + 1) (o++[i]) (by omega) (by omega) (by omega) (by simp; omega)
   have h5:appA T 45 (ints o) (ints [i])=some (ints (o++[i])):=AP45 (by simp; omega)
   rw [show (i + 1).toNat=i.toNat + 1 by omega] at h4
   rw [hm] at h3
   simp at h4
   simp (disch:=omega) [h1,wrap_in,IX24,h3,hB]
   simp [hm,h5,h4]
  ·have h4:=ih (i + 1) o (by omega) (by omega) (by omega) (by omega)
   rw [show (i + 1).toNat=i.toNat + 1 by omega] at h4
   rw [hm] at h3
   simp at h4
   simp (disch:=omega) [h1,wrap_in,IX24,h3]
   simp [hm,h4]
theorem bad_params {s:Seen} {a:Adv} (B:SB s) {f:Fun} (h:badX s a=some f):f.params.length≤1000000:=by
 rcases badCases s a with ⟨_,h3⟩ | ⟨k,hk,_,h3⟩
 ·rw [h3] at h
  cases h
 ·rcases h3 with ⟨_,h3⟩ | ⟨j,hj,_,h3⟩
  ·rw [h3] at h
   cases h
  ·rw [h3] at h
   split at h
   ·cases h
    exact B.params _ (List.getElem_mem hk) _ (List.getElem_mem hj)
   ·cases h
theorem t16 {s:Seen} {a:Adv} (B:SB s) (A:AB a):callW pg 16 [s.av,a.av] = M.pure (ints (didX s a)):=by
 have h1:=t39 B A
 rw [C16,cl_seen,cl_adv]
 have key:S16 (callW pg) fixW s.av a.av=M.pure (ints (didX s a)):=by
  unfold didX
  cases hb:badX s a with
  | none =>
   rw [hb] at h1
   simp [S16,h1,findA,ints]
  | some f =>
   rw [hb] at h1
   have h2:=loop16 A f (bad_params B hb) s.calls B.calls B.args _ 0 [] rfl (by omega) (by omega) (by simp)
   rw [show ints [] = AV.sl [] from rfl] at h2
   simp at h2
   simp [S16,h1,findA,h2]
 rw [key]
 exact isoP_pure fun g=>cl_ints g _
theorem loop82 (l:List Ref) (r:Ref) (hb:l.length≤40000000):∀ (n:Nat) (i:Int),l.length - i.toNat=n→0≤i→i≤l.length →
  ∃ k:Int,fixW (L82_0 (callW pg) fixW) [refsA l,.ip [.str r.1,.str r.2],.int .i64 l.length,.int .i64 i] = M.pure (.int .i64 k)∧decide (0≤k)=decide (r∈l.drop i.toNat):=by
 intro n
 induction n with
 | zero =>
  intro i hn hi hl
  have h1:¬ (i < (l.length:Int)):=by omega
  have h2:l.drop i.toNat = []:=List.drop_eq_nil_of_le (by omega)
  refine ⟨-1,?_,by rw [h2]; simp⟩
  rw [FL82_0]
  simp only [L82_0]
  simp [h1]
 | succ n ih =>
  intro i hn hi hl
  have h1:i < (l.length:Int):=by omega
  have hlt:i.toNat < l.length:=by omega
  obtain ⟨k,h4,h5⟩:=ih (i + 1) (by omega) (by omega) (by omega)
  rw [show (i + 1).toNat=i.toNat + 1 by omega] at h5
  have hd:=List.drop_eq_getElem_cons hlt
  rw [FL82_0]
  simp only [L82_0]
  by_cases h6:r=l[i.toNat]
  ·refine ⟨i,?_,by rw [hd,decide_eq_true hi,decide_eq_true (by rw [h6]; exact List.mem_cons_self)]⟩
   simp (disch:=omega) [h1,wrap_in,IX42,binEq,h6]
  ·refine ⟨k,?_,by rw [h5,hd]; exact decide_eq_decide.2 ⟨fun h=>List.mem_cons_of_mem _ h,fun h=>(List.mem_cons.1 h).resolve_left h6⟩⟩
   rw [← h4]
   simp (disch:=omega) [h1,wrap_in,IX42,binEq,h6]
theorem t45 (l:List Ref) (r:Ref) (hb:l.length≤40000000):callW pg 45 [refsA l,refA r] = M.pure (.bool (decide (r∈l))):=by
 have h3:lenA T 42 (refsA l)=some (.int .i64 l.length):=by simp [refsA]
 obtain ⟨k,h1,h2⟩:=loop82 l r hb l.length 0 rfl (by omega) (by omega)
 have h4:callW pg 82 [refsA l,refA r] = M.pure (.int .i64 k):=by
  rw [C82]
  simp [S82,h3,h1]
 rw [C45]
 simp at h2
 simp [S45,h4,h2]
theorem loop18 {a:Adv} (A:AB a) (f:Fun) (hf:f.params.length≤1000000) (l:List Ref) (hb:l.length≤40000000) (cs:List Ap.Call) (hl:cs.length≤1000000) (hc:∀ c∈cs,valsSz c.args≤4611686018427387904):∀ (n:Nat) (i:Int),cs.length - i.toNat=n→0≤i→i≤cs.length →
  fixW (L18_0 (callW pg) fixW) [.ip (acells a.av),.ip (acells f.av),refsA l,Ap.calls cs,.int .i64 cs.length,.int .i64 i] = M.pure (.int .i64 (if (cs.drop i.toNat).any (fun c=>(meetsX f a c).2||(!f.pub&&decide ((c.module,c.func)∈l)))=true then 1 else 0)):=by
 intro n
 induction n with
 | zero =>
  intro i hn hi hl
  have h1:¬ (i < (cs.length:Int)):=by omega
  have h2:cs.drop i.toNat = []:=List.drop_eq_nil_of_le (by omega)
  rw [FL18_0,h2]
  simp only [L18_0]
  simp [h1]
 | succ n ih =>
  intro i hn hi hl
  have h1:i < (cs.length:Int):=by omega
  have hlt:i.toNat < cs.length:=by omega
  have h3:=t43 A f hf cs[i.toNat] (hc _ (List.getElem_mem hlt))
  have h4:=ih (i + 1) (by omega) (by omega) (by omega)
  have h5:=t45 l (cs[i.toNat].module,cs[i.toNat].func) hb
  rw [show (i + 1).toNat=i.toNat + 1 by omega] at h4
  rw [FL18_0,List.drop_eq_getElem_cons hlt,List.any_cons]
  simp only [L18_0]
  simp only [pairB] at h3
  rcases Bool.eq_false_or_eq_true (meetsX f a cs[i.toNat]).2 with hm | hm
  ·simp (disch:=omega) [h1,wrap_in,IX24,h3]
   simp [hm]
  ·rcases Bool.eq_false_or_eq_true f.pub with hp | hp
   ·simp [hp] at h4
    simp (disch:=omega) [h1,wrap_in,IX24,h3]
    simp [hm,hp,h4]
   ·simp [hp] at h4
    by_cases h6:(cs[i.toNat].module,cs[i.toNat].func)∈l
    ·rw [decide_eq_true h6] at h5
     simp (disch:=omega) [h1,wrap_in,IX24,h3,hBr]
     simp [hm,hp,h5,h6]
    ·rw [decide_eq_false h6] at h5
     simp (disch:=omega) [h1,wrap_in,IX24,h3,hBr]
     simp [hm,hp,h5,h6,h4]
theorem did_any (f:Fun) (a:Adv) (cs:List Ap.Call):(0 < (idxL (fun c=>(meetsX f a c).1) cs 0).length) ↔ cs.any (fun c=>(meetsX f a c).1)=true:=by
 rw [List.length_pos_iff,ne_eq,idxL_nil,List.any_eq_true]
 constructor
 ·intro h
  apply Classical.byContradiction
  intro h2
  exact h fun x hx=>by
   cases hq:(meetsX f a x).1 with
   | false=>rfl
   | true=>exact absurd ⟨x,hx,hq⟩ h2
 ·rintro ⟨x,hx,hq⟩ h
  rw [h x hx] at hq
  cases hq
theorem could_len {s:Seen} (B:SB s) (a:Adv):(couldX usersL s a).length≤1000000:=by
 unfold couldX
 split
 ·exact users_len B.sm _
 ·exact Nat.zero_le _
theorem t18 {s:Seen} {a:Adv} (B:SB s) (A:AB a):callW pg 18 [s.av,a.av] = M.pure (.int .i64 (judgeX usersL s a)):=by
 have h1:=t39 B A
 have h2:=t16 B A
 have h3:=t13 B A
 have h4:=could_len B a
 have hlR:∀ l:List Ref,lenA T 42 (refsA l)=some (.int .i64 l.length):=fun l=>by simp [refsA]
 rw [C18,cl_seen,cl_adv]
 have key:S18 (callW pg) fixW s.av a.av=M.pure (.int .i64 (judgeX usersL s a)):=by
  unfold judgeX
  cases hb:badX s a with
  | none =>
   have g1:didX s a = []:=by unfold didX; rw [hb]
   have g2:couldX usersL s a = []:=by unfold couldX; rw [hb]; rfl
   rw [hb] at h1
   rw [g1] at h2
   rw [g2] at h3
   simp [S18,h1,findA,h2,h3]
  | some f =>
   have g1:didX s a=idxL (fun c=>(meetsX f a c).1) s.calls 0:=by unfold didX; rw [hb]
   rw [hb] at h1
   have g2:=did_any f a s.calls
   rw [← g1] at g2
   by_cases hd:s.calls.any (fun c=>(meetsX f a c).1)=true
   ·have g3:¬ didX s a = []:=fun h=>by have:=g2.2 hd; rw [h] at this; exact absurd this (by decide)
    simp only
    rw [if_pos hd]
    simp [S18,h1,findA,h2,g3]
   ·have g3:didX s a = []:=List.eq_nil_of_length_eq_zero (Nat.eq_zero_of_not_pos fun h=>hd (g2.1 h))
    rw [g3] at h2
    simp only
    rw [if_neg hd]
    by_cases hc:couldX usersL s a = []
    ·rw [if_pos hc]
     rw [hc] at h3
     simp [S18,h1,findA,h2,h3,hlR]
    ·rw [if_neg hc]
     cases hw:s.whole with
     | false =>
      simp [S18,h1,findA,h2,h3,hlR,hc]
      simp [hw]
     | true =>
      have h5:=loop18 A f (bad_params B hb) (couldX usersL s a) (by omega) s.calls B.calls B.args _ 0 rfl (by omega) (by omega)
      have h6:s.calls.any (mayX usersL s a f)=(s.calls.drop (0:Int).toNat).any (fun c=>(meetsX f a c).2||(!f.pub&&decide ((c.module,c.func)∈couldX usersL s a))):=rfl
      rw [h6,if_neg (show ¬ (true=false) by decide),← h5]
      simp [S18,h1,findA,h2,h3,hlR,hc]
      simp [hw]
 rw [key]
 exact isoP_int _ _
theorem loop20 {a:Adv} (A:AB a) (l:List Seen) (hl:l.length≤1000000) (hB:∀ s∈l,SB s):∀ (n:Nat) (i:Int) (o:List Int),l.length - i.toNat=n→0≤i→i≤l.length→o.length≤i.toNat →
  fixW (L20_0 (callW pg) fixW) [.ip (acells a.av),ints o,seens l,.int .i64 l.length,.int .i64 i] = M.pure (ints (o++idxL (fun s=>!s.whole&&judgeX usersL s a == 1) (l.drop i.toNat) i)):=by
 have hB1:∀ k:Int,buildSliceA T 45 1 [(0,.int .i64 k)] = some (ints [k]):=fun k=>rfl
 intro n
 induction n with
 | zero =>
  intro i o hn hi hl hns
  have h1:¬ (i < (l.length:Int)):=by omega
  have h2:l.drop i.toNat = []:=List.drop_eq_nil_of_le (by omega)
  rw [FL20_0,h2]
  simp only [L20_0]
  simp [h1,idxL]
 | succ n ih =>
  intro i o hn hi hl hns
  have h1:i < (l.length:Int):=by omega
  have hlt:i.toNat < l.length:=by omega
  have h3:=t18 (hB _ (List.getElem_mem hlt)) A
  have h4:=ih (i + 1) (o++[i]) (by omega) (by omega) (by omega) (by simp; omega)
  have h4':=ih (i + 1) o (by omega) (by omega) (by omega) (by omega)
  have h5:appA T 45 (ints o) (ints [i])=some (ints (o++[i])):=AP45 (by simp; omega)
  rw [show (i + 1).toNat=i.toNat + 1 by omega] at h4 h4'
  rw [FL20_0,List.drop_eq_getElem_cons hlt]
  simp only [L20_0,idxL]
  simp at h4 h4'
  rcases Bool.eq_false_or_eq_true l[i.toNat].whole with hw | hw
  ·simp (disch:=omega) [h1,wrap_in,IX40,h3]
   simp [hw,h4']
  ·by_cases hj:judgeX usersL l[i.toNat] a=1
   ·simp (disch:=omega) [h1,wrap_in,IX40,h3]
    simp [hw,hj,hB1,h5,h4]
   ·simp (disch:=omega) [h1,wrap_in,IX40,h3]
    simp [hw,hj,h4']
theorem t20 {a:Adv} (A:AB a) (l:List Seen) (hl:l.length≤1000000) (hB:∀ s∈l,SB s):callW pg 20 [seens l,a.av] = M.pure (ints (askX usersL l a)):=by
 have h2:=loop20 A l hl hB _ 0 [] rfl (by omega) (by omega) (by simp)
 rw [C20,cl_seens,cl_adv]
 rw [show ints [] = AV.sl [] from rfl] at h2
 simp at h2
 have key:S20 (callW pg) fixW (seens l) a.av=M.pure (ints (askX usersL l a)):=by
  unfold askX
  simp [S20,h2]
 rw [key]
 exact isoP_pure fun g=>cl_ints g _
end Go.Proofs.YtnipfhmghjdnmaaGreat

namespace Go.Proofs.YtnipfhmghjdnmaaGreat
open Go Go.Av Go.Av.Ap
set_option maxRecDepth 100000
def xE:Exp:=.mk 2 0 [120] [] [] []
def sP:List Mod :=
 [⟨[98,97,115,101],[[103,101,111]],[],[],[⟨[116,119,111],true,[([120],.mk 0 [])],.mk 0 [],0,.mk 15 0 [105,100] [103,101,111] [] [xE]⟩],false,[],[],[]⟩,
   ⟨[103,101,111],[],[],[],[⟨[105,100],true,[([120],.mk 0 [])],.mk 0 [],0,xE⟩],false,[],[],[]⟩]
def exS (w:Bool):Seen:=⟨sP,[⟨1,0,0⟩,⟨1,2,0⟩],[],w⟩
def exA:Adv:=⟨1,[103,101,111],[⟨⟨1,0,0⟩,⟨2,0,0⟩⟩],[105,100],.mk 6 0 [] [] [] [.mk 0 4 [] [] [] [],xE]⟩
def exC (m f:Str) (n:Int):Ap.Call:=⟨m,f,[.mk 0 n [] []]⟩
def exSome:Seen:=⟨sP,[⟨1,0,0⟩,⟨1,2,0⟩],[exC [98,97,115,101] [116,119,111] 9,exC [103,101,111] [105,100] 3],true⟩
def exDid:Seen:=⟨sP,[⟨1,0,0⟩,⟨1,2,0⟩],[exC [103,101,111] [105,100] 3,exC [103,101,111] [105,100] 5],true⟩
def exOther:Seen:=⟨sP,[⟨1,0,0⟩,⟨2,0,0⟩],[],false⟩
abbrev rT:Ref:=([98,97,115,101],[116,119,111])
abbrev rI:Ref:=([103,101,111],[105,100])
theorem t35 (m f:Str) (n:Int):callW pg 35 [.str m,.str f,.int .i64 n] = M.pure (exC m f n).av:=by
 have h1:callW pg 69 [.int .i64 n] = M.pure (Val.av (.mk 0 n [] [])):=by
  rw [C69]
  exact isoP_pure fun g=>cl_val g (.mk 0 n [] [])
 rw [C35]
 have h:S35 (callW pg) fixW (.str m) (.str f) (.int .i64 n)=M.pure (exC m f n).av:=by
  simp only [S35,h1,bnd_pure]
  rfl
 simp only [cl]
 rw [h]
 exact isoP_pure fun g=>cl_call g _
theorem t34 (w:Bool):callW pg 34 [.bool w] = M.pure (exS w).av:=by
 rw [C34]
 have h:S34 (callW pg) fixW (.bool w)=M.pure (exS w).av:=rfl
 simp only [cl]
 rw [h]
 exact isoP_pure fun g=>cl_seen g _
theorem t33:callW pg 33 [] = M.pure exA.av:=by
 rw [C33]
 have h:S33 (callW pg) fixW=M.pure exA.av:=rfl
 rw [h]
 exact isoP_pure fun g=>cl_adv g _
theorem lim_xE:xE.Lim:=lim_mk (by simp) (by simp) (fun x hx=>by cases hx)
theorem sm_sP:Sm sP where
 len:=by simp [sP]
 funcs:=fun m hm=>by
  simp only [sP,List.mem_cons,List.not_mem_nil,or_false] at hm
  rcases hm with rfl | rfl <;> simp
 idx:=by decide
 body:=body_lim (fun m hm f hf=>by
  simp only [sP,List.mem_cons,List.not_mem_nil,or_false] at hm
  rcases hm with rfl | rfl
  ·simp only [List.mem_cons,List.not_mem_nil,or_false] at hf
   subst hf
   refine lim_mk (by simp) (by simp) (fun x hx=>?_)
   simp only [List.mem_cons,List.not_mem_nil,or_false] at hx
   subst hx
   exact lim_xE
  ·simp only [List.mem_cons,List.not_mem_nil,or_false] at hf
   subst hf
   exact lim_xE)
theorem sb_ex (v:List Ver) (cs:List Ap.Call) (w:Bool) (hv:v.length≤2) (hc:cs.length≤2) (ha:∀ c∈cs,valsSz c.args≤100):SB ⟨sP,v,cs,w⟩ where
 sm:=sm_sP
 len:=by simp [sP]
 funcs:=fun m hm=>by
  simp only [sP,List.mem_cons,List.not_mem_nil,or_false] at hm
  rcases hm with rfl | rfl <;> simp
 vsns:=by simp only; omega
 calls:=by simp only; omega
 args:=fun c hm=>by have:=ha c hm; omega
 params:=fun m hm f hf=>by
  simp only [sP,List.mem_cons,List.not_mem_nil,or_false] at hm
  rcases hm with rfl | rfl
  ·simp only [List.mem_cons,List.not_mem_nil,or_false] at hf
   subst hf
   simp
  ·simp only [List.mem_cons,List.not_mem_nil,or_false] at hf
   subst hf
   simp
theorem ab_ex:AB exA where
 ranges:=by simp [exA]
 cond:=by simp [exA,xE,expLim,expsLim]
theorem ex_bad:badX (exS false) exA=some ⟨[105,100],true,[([120],.mk 0 [])],.mk 0 [],0,xE⟩:=by kernel_rfl
theorem ex_could:couldX usersL (exS false) exA = [rT,rI]:=by kernel_rfl
theorem ex_none:couldX usersL exOther exA = []:=by kernel_rfl
theorem ex_did:didX exDid exA = [1]:=by kernel_rfl
theorem ex_j1:judgeX usersL (exS false) exA=1:=by kernel_rfl
theorem ex_j2:judgeX usersL (exS true) exA=0:=by kernel_rfl
theorem ex_j3:judgeX usersL exSome exA=0:=by kernel_rfl
theorem ex_j4:judgeX usersL exDid exA=2:=by kernel_rfl
theorem ex_j5:judgeX usersL exOther exA=0:=by kernel_rfl
theorem ex_ask:askX usersL [exSome,exS false,exOther] exA = [1]:=by kernel_rfl
theorem hldS (s:Seen):loadA T 26 (.ip (acells s.av))=some s.av:=rfl
theorem hldA (a:Adv):loadA T 33 (.ip (acells a.av))=some a.av:=by simp
theorem smallX_S (call:FuncId→List AV→M AV) (xa:call 33 [] = M.pure exA.av) (xs:∀ w,call 34 [.bool w] = M.pure (exS w).av) (xc:∀ m f n,call 35 [.str m,.str f,.int .i64 n] = M.pure (exC m f n).av)
  (b1:call 10 [(exS false).av,exA.av] = M.pure (.tup [refA rI,.bool true])) (c1:call 13 [(exS false).av,exA.av] = M.pure (refsA [rT,rI])) (r1:call 12 [refsA [rT,rI],refsA [rT,rI]] = M.pure (.bool true))
  (j1:call 18 [(exS false).av,exA.av] = M.pure (.int .i64 1)) (j2:call 18 [(exS true).av,exA.av] = M.pure (.int .i64 0)) (j3:call 18 [exSome.av,exA.av] = M.pure (.int .i64 0))
  (d1:call 16 [exDid.av,exA.av] = M.pure (ints [1])) (i1:call 15 [ints [1],ints [1]] = M.pure (.bool true)) (j4:call 18 [exDid.av,exA.av] = M.pure (.int .i64 2))
  (c2:call 13 [exOther.av,exA.av] = M.pure (refsA [])) (j5:call 18 [exOther.av,exA.av] = M.pure (.int .i64 0)) (k1:call 20 [seens [exSome,exS false,exOther],exA.av] = M.pure (ints [1])):S8 call fixW=M.pure (.bool true):=by
 unfold S8
 refine st xa ?_
 refine st (cellsM_adv _) ?_
 refine st (xs _) ?_
 refine st (cellsM_seen _) ?_
 refine st (xs _) ?_
 refine st (cellsNil_seen _) ?_
 refine st (xc _ _ _) ?_
 refine st (xc _ _ _) ?_
 refine st (lftE (show _=some (Ap.calls exSome.calls) from rfl)) ?_
 refine st (show cell1M _=M.pure (Ap.calls exSome.calls) from rfl) ?_
 refine st (xs _) ?_
 refine st (cellsNil_seen _) ?_
 refine st (xc _ _ _) ?_
 refine st (xc _ _ _) ?_
 refine st (lftE (show _=some (Ap.calls exDid.calls) from rfl)) ?_
 refine st (show cell1M _=M.pure (Ap.calls exDid.calls) from rfl) ?_
 refine st (xs _) ?_
 refine st (cellsNil_seen _) ?_
 refine st (lftE (show _=some (Ver.av ⟨1,0,0⟩) from rfl)) ?_
 refine st (lftE (show _=some (Ver.av ⟨2,0,0⟩) from rfl)) ?_
 refine st (lftE (show _=some (vers exOther.vsns) from rfl)) ?_
 refine st (show cell1M _=M.pure (vers exOther.vsns) from rfl) ?_
 refine st (lftE (hldS _)) ?_
 refine st (lftE (hldA _)) ?_
 refine st b1 ?_
 refine st (lftE rfl) ?_
 refine st (lftE rfl) ?_
 refine st (hcmr _) ?_
 refine st (lftE (hBr _ _)) ?_
 refine st (lftE (hBr _ _)) ?_
 refine st (lftE (hB2r _ _)) ?_
 refine st (gE (st (lftE (hldr _)) (st (lftE (show _=some _ from rfl)) (st (lftE (show _=some (refA rI) from rfl)) (st (lftE (binEq _ _)) rfl))))) ?_
 refine st (lftE (show _=some (.bool true) by rfl)) ?_
 refine st (gE (st (lftE (hldS _)) (st (lftE (hldA _)) (st (np c1) (st (np r1) rfl))))) ?_
 refine st (lftE rfl) ?_
 refine st (gE (st (lftE (hldS _)) (st (lftE (hldA _)) (st (np j1) (st (lftE rfl) rfl))))) ?_
 refine st (lftE rfl) ?_
 refine st (gE (st (np (xs _)) (st (lftE (hldA _)) (st (np j2) (st (lftE rfl) rfl))))) ?_
 refine st (lftE rfl) ?_
 refine st (gE (st (lftE (hldA _)) (st (np j3) (st (lftE rfl) rfl)))) ?_
 refine st (lftE rfl) ?_
 refine st (lftE (hldA _)) ?_
 refine st d1 ?_
 refine st (lftE (show _=some (ints [1]) from rfl)) ?_
 refine st i1 ?_
 refine st (gE (st (lftE (hldA _)) (st j4 (st (lftE rfl) rfl)))) ?_
 refine st (lftE rfl) ?_
 refine st (gE (st (lftE (hldA _)) (st c2 (st (lftE rfl) (st (lftE rfl) rfl))))) ?_
 refine st (lftE rfl) ?_
 refine st (gE (st (lftE (hldA _)) (st j5 (st (lftE rfl) rfl)))) ?_
 refine st (lftE rfl) ?_
 refine st (gE rfl) ?_
 refine st (lftE rfl) ?_
 refine st (gE (st (lftE (hldS _)) (st (lftE (show _=some (seens [exSome,exS false,exOther]) from rfl)) (st (lftE (hldA _)) (st k1 (st (lftE (show _=some (ints [1]) from rfl)) (st i1 rfl))))))) ?_
 refine st (lftE rfl) ?_
 rfl
theorem t8:callW pg 8 [] = M.pure (.bool true):=by
 have B1:∀ w,SB (exS w):=fun w=>sb_ex _ _ _ (by simp) (by simp) (fun c hc=>by cases hc)
 have ha:∀ m f n,valsSz (exC m f n).args≤100:=fun m f n=>by simp [exC,valsSz,Val.sz]
 have B2:SB exSome:=sb_ex _ _ _ (by simp) (by simp) (fun c hc=>by
  simp only [List.mem_cons,List.not_mem_nil,or_false] at hc
  rcases hc with rfl | rfl <;> exact ha _ _ _)
 have B3:SB exDid:=sb_ex _ _ _ (by simp) (by simp) (fun c hc=>by
  simp only [List.mem_cons,List.not_mem_nil,or_false] at hc
  rcases hc with rfl | rfl <;> exact ha _ _ _)
 have B4:SB exOther:=sb_ex _ _ _ (by simp) (by simp) (fun c hc=>by cases hc)
 have A:=ab_ex
 have b1:=t10 (B1 false) A
 have c1:=t13 (B1 false) A
 have c2:=t13 B4 A
 have d1:=t16 B3 A
 have j1:=t18 (B1 false) A
 have j2:=t18 (B1 true) A
 have j3:=t18 B2 A
 have j4:=t18 B3 A
 have j5:=t18 B4 A
 have k1:=t20 A [exSome,exS false,exOther] (by simp) (fun s hs=>by
  simp only [List.mem_cons,List.not_mem_nil,or_false] at hs
  rcases hs with rfl | rfl | rfl
  ·exact B2
  ·exact B1 false
  ·exact B4)
 rw [ex_bad] at b1
 rw [ex_could] at c1
 rw [ex_none] at c2
 rw [ex_did] at d1
 rw [ex_j1] at j1
 rw [ex_j2] at j2
 rw [ex_j3] at j3
 rw [ex_j4] at j4
 rw [ex_j5] at j5
 rw [ex_ask] at k1
 rw [C8]
 rw [smallX_S (callW pg) t33 t34 t35 b1 c1 (by rw [t12 _ _ (by simp)]; rfl) j1 j2 j3 d1 (by rw [t15 _ _ (by simp)]; rfl) j4 c2 j5 k1]
 exact isoP_bool true
end Go.Proofs.YtnipfhmghjdnmaaGreat

namespace Go.Proofs.YtnipfhmghjdnmaaGreat
open Go Go.Av Go.Av.Ap
set_option maxRecDepth 100000
theorem judge_none {s:Seen} {a:Adv} (h:badX s a=none):judgeX usersL s a=0:=by
 unfold judgeX
 rw [h]
theorem could_none {s:Seen} {a:Adv} (h:badX s a=none):couldX usersL s a = []:=by
 unfold couldX
 rw [h]
 rfl
theorem did_none {s:Seen} {a:Adv} (h:badX s a=none):didX s a = []:=by
 unfold didX
 rw [h]
def inX (s:Seen) (a:Adv):Bool:=decide (0≤modAt s.prog a.name)&&decide (modAt s.prog a.name < s.vsns.length)&&hasV a.ranges (s.vsns[(modAt s.prog a.name).toNat]?.getD default)
theorem bad_in {s:Seen} {a:Adv} (h:(badX s a).isSome=true):inX s a=true:=by
 unfold inX
 rcases badCases s a with ⟨_,h3⟩ | ⟨k,hk,h2,h3⟩
 ·rw [h3] at h
  cases h
 ·rcases h3 with ⟨_,h3⟩ | ⟨j,hj,_,h3⟩
  ·rw [h3] at h
   cases h
  ·rw [h3] at h
   by_cases hv:k < s.vsns.length∧hasV a.ranges (s.vsns[k]?.getD default)=true
   ·rw [h2,Int.toNat_natCast,hv.2,decide_eq_true (by omega),decide_eq_true (by omega)]
    rfl
   ·rw [if_neg hv] at h
    cases h
theorem bad_old (p:List Mod) (cs:List Ap.Call) (w:Bool) (a:Adv):badX ⟨p,[],cs,w⟩ a=none:=by
 rcases badCases ⟨p,[],cs,w⟩ a with ⟨_,h3⟩ | ⟨k,hk,_,h3⟩
 ·exact h3
 ·rcases h3 with ⟨_,h3⟩ | ⟨j,hj,_,h3⟩
  ·exact h3
  ·rw [h3,if_neg (fun h=>by simp at h)]
def noneA (a:Adv):Adv:={ a with ranges:=[] }
theorem bad_noneA (s:Seen) (a:Adv):badX s (noneA a)=none:=by
 rcases badCases s (noneA a) with ⟨_,h3⟩ | ⟨k,hk,_,h3⟩
 ·exact h3
 ·rcases h3 with ⟨_,h3⟩ | ⟨j,hj,_,h3⟩
  ·exact h3
  ·rw [h3,if_neg (fun h=>by have:=h.2; cases this)]
theorem bad_gone {p:List Mod} (v:List Ver) (cs:List Ap.Call) (w:Bool) {a:Adv} (h:∀ m∈p,m.name≠a.name):badX ⟨p,v,cs,w⟩ a=none:=by
 rcases badCases ⟨p,v,cs,w⟩ a with ⟨_,h3⟩ | ⟨k,hk,h2,_⟩
 ·exact h3
 ·exfalso
  rcases idx_find (F:=fun m:Mod=>m.name == a.name) p 0 (by omega) with ⟨_,h4⟩ | ⟨j,hj,_,h5⟩
  ·have h6:idxAt (fun m:Mod=>m.name == a.name) p 0=k:=h2
   omega
  ·have h6:=List.find?_some h5
   exact h _ (List.getElem_mem hj) (by simpa using h6)
theorem hc1m (l:List Mod):cell1M (mods l)=M.pure (mods l):=rfl
theorem mods_nil:AV.sl [] = mods []:=rfl
structure PartB (s:Seen) (o:List Mod) (a:Adv):Prop where
 sub:∀ m∈o,m∈s.prog
 ne:∀ m∈o,m.name≠a.name
 len:o.length≤s.prog.length
theorem sb_gone {s:Seen} (S0:s.Lim) (B:SB s) (F:FewB s) {a:Adv} {o:List Mod} (P:PartB s o a):SB ⟨o,s.vsns,s.calls,s.whole⟩ where
 sm:=sm_few (fun m hm=>S0.mods m (P.sub m hm)) (by have:=P.len; have:=F.len; show o.length≤9; omega) (fun m hm=>by have:=F.funcs m (P.sub m hm); omega)
 len:=by have:=P.len; have:=F.len; show o.length≤1000000; omega
 funcs:=fun m hm=>B.funcs m (P.sub m hm)
 vsns:=B.vsns
 calls:=B.calls
 args:=B.args
 params:=fun m hm=>B.params m (P.sub m hm)
theorem sb_old {s:Seen} (B:SB s):SB ⟨s.prog,[],s.calls,s.whole⟩:=⟨B.sm,B.len,B.funcs,by simp,B.calls,B.args,B.params⟩
theorem loopA4 {s:Seen} {a:Adv} (S0:s.Lim) (B:SB s) (A:AB a) (F:FewB s):∀ (n:Nat) (i:Int) (o:List Mod),s.prog.length - i.toNat=n→0≤i→i≤s.prog.length→(∀ m∈o,m∈s.prog)→(∀ m∈o,m.name≠a.name)→o.length≤i.toNat →
  fixW (L4_0 (callW pg) fixW) [.ip (acells s.av),.ip (acells a.av),.bool true,.int .i64 i,mods s.prog,.sl [],Ap.calls s.calls,.bool s.whole,mods o,vers s.vsns,Ap.calls s.calls,.bool s.whole] = M.pure (.bool true):=by
 have hFl:=F.len
 have hB:∀ m:Mod,buildSliceA T 22 1 [(0,m.av)] = some (mods [m]):=fun m=>rfl
 intro n
 induction n with
 | zero =>
  intro i o hn hi hb h1 h2 h3
  have P:PartB s o a:=⟨h1,h2,by omega⟩
  have h5:¬ i < (s.prog.length:Int):=by omega
  have B2:=sb_gone S0 B F P
  have j1:callW pg 18 [.agg [mods s.prog,.sl [],Ap.calls s.calls,.bool s.whole],a.av] = M.pure (.int .i64 0):=by
   have:=t18 (sb_old B) A
   rw [judge_none (bad_old _ _ _ _)] at this
   exact this
  have j2:callW pg 18 [.agg [mods o,vers s.vsns,Ap.calls s.calls,.bool s.whole],a.av] = M.pure (.int .i64 0):=by
   have:=t18 B2 A
   rw [judge_none (bad_gone _ _ _ h2)] at this
   exact this
  have c2:callW pg 13 [.agg [mods o,vers s.vsns,Ap.calls s.calls,.bool s.whole],a.av] = M.pure (.sl []):=by
   have:=t13 B2 A
   rw [could_none (bad_gone _ _ _ h2)] at this
   exact this
  have AN:AB (noneA a):=⟨by simp [noneA],A.cond⟩
  have j3:callW pg 18 [s.av,.agg [.int .i64 a.id,.str a.name,.sl [],.str a.func,.int .i64 a.cond.op,.int .i64 a.cond.n,.str a.cond.s,.str a.cond.m,strs a.cond.names,exps a.cond.args]] = M.pure (.int .i64 0):=by
   have:=t18 B AN
   rw [judge_none (bad_noneA _ _),← fold_adv] at this
   exact this
  rw [FL4_0]
  simp only [L4_0]
  simp [h5,j1,j2,j3,c2]
 | succ n ih =>
  intro i o hn hi hb h1 h2 h3
  have h5:i < (s.prog.length:Int):=by omega
  have hlt:i.toNat < s.prog.length:=by omega
  rw [FL4_0]
  simp only [L4_0]
  by_cases hne:s.prog[i.toNat].name=a.name
  ·have h4:=ih (i + 1) o (by omega) (by omega) (by omega) h1 h2 (by omega)
   simp at h4
   simp (disch:=omega) [h5,IX22,hne,wrap_in,K4_1,h4]
  ·have h4:=ih (i + 1) (o++[s.prog[i.toNat]]) (by omega) (by omega) (by omega) (fun m hm=>by
    rcases List.mem_append.1 hm with h | h
    ·exact h1 m h
    ·rw [List.mem_singleton.1 h]; exact List.getElem_mem hlt) (fun m hm=>by
    rcases List.mem_append.1 hm with h | h
    ·exact h2 m h
    ·rw [List.mem_singleton.1 h]; exact hne) (by simp; omega)
   have hA:appA T 22 (mods o) (mods [s.prog[i.toNat]])=some (mods (o++[s.prog[i.toNat]])):=AP22 (by simp; omega)
   simp at h4
   simp (disch:=omega) [h5,IX22,hne,wrap_in,hB,hA,hc1m,K4_1,h4]
theorem loopB4 {s:Seen} {a:Adv} (S0:s.Lim) (B:SB s) (A:AB a) (F:FewB s):∀ (n:Nat) (i:Int),(i + 1).toNat=n → -1≤i→i < s.prog.length →
  fixW (L4_1 (callW pg) fixW) [.ip (acells s.av),.ip (acells a.av),.bool true,.int .i64 (idxAt (fun m:Mod=>m.name == a.name) (s.prog.drop n) n),.int .i64 i] = M.pure (.bool true):=by
 have hFl:=F.len
 have hlR:∀ l:List Ref,lenA T 42 (refsA l)=some (.int .i64 l.length):=fun l=>by simp [refsA]
 intro n
 induction n with
 | zero =>
  intro i hn hi hb
  obtain rfl:i = -1:=by omega
  have h0:=loopA4 S0 B A F _ 0 [] rfl (by omega) (by omega) (fun m hm=>by cases hm) (fun m hm=>by cases hm) (by simp)
  have hM:idxAt (fun m:Mod=>m.name == a.name) (s.prog.drop 0) (0:Nat)=modAt s.prog a.name:=rfl
  rw [hM]
  have h1:=t10 B A
  have h2:=t13 B A
  have h3:=t16 B A
  have h4:=t18 B A
  rw [← mods_nil] at h0
  simp at h0
  by_cases hin:0≤modAt s.prog a.name∧modAt s.prog a.name < s.vsns.length
  ·obtain ⟨g1,g2⟩:=hin
   have hlt:(modAt s.prog a.name).toNat < s.vsns.length:=by omega
   have h5:=t22 a.ranges s.vsns[(modAt s.prog a.name).toNat] (by have:=A.ranges; omega)
   have hix:inX s a=hasV a.ranges s.vsns[(modAt s.prog a.name).toNat]:=by
    unfold inX
    rw [decide_eq_true g1,decide_eq_true g2,List.getElem?_eq_getElem hlt]
    rfl
   cases hs:(badX s a).isSome with
   | true =>
    have h6:=bad_in hs
    rw [hix] at h6
    rw [hs] at h1
    rw [h6] at h5
    simp only [refO,if_true] at h1
    rw [FL4_1]
    simp only [L4_1]
    simp (disch:=omega) [g1,g2,h1,h5,IX23,K4_2]
    simp [h0,hcmr]
   | false =>
    have hn:badX s a=none:=by
     cases hx:badX s a with
     | none=>rfl
     | some f=>rw [hx] at hs; cases hs
    rw [hs] at h1
    rw [could_none hn] at h2
    rw [did_none hn] at h3
    rw [judge_none hn] at h4
    simp only [refO,Bool.false_eq_true,if_false] at h1
    rw [FL4_1]
    simp only [L4_1]
    simp (disch:=omega) [g1,g2,h1,h2,h3,h4,h5,IX23,hlR,K4_2]
    simp [h0,hcmr]
  ·cases hs:(badX s a).isSome with
   | true =>
    exfalso
    have h6:=bad_in hs
    unfold inX at h6
    simp only [Bool.and_eq_true,decide_eq_true_eq] at h6
    exact hin h6.1
   | false =>
    have hn:badX s a=none:=by
     cases hx:badX s a with
     | none=>rfl
     | some f=>rw [hx] at hs; cases hs
    rw [hs] at h1
    rw [could_none hn] at h2
    rw [did_none hn] at h3
    rw [judge_none hn] at h4
    simp only [refO,Bool.false_eq_true,if_false] at h1
    rw [FL4_1]
    simp only [L4_1]
    by_cases g1:0≤modAt s.prog a.name
    ·have g2:¬ modAt s.prog a.name < s.vsns.length:=fun h=>hin ⟨g1,h⟩
     simp [g1,g2,h1,h2,h3,h4,hcmr,hlR,K4_2]
     simp [h0]
    ·simp [g1,h1,h2,h3,h4,hcmr,hlR,K4_2]
     simp [h0]
 | succ n ih =>
  intro i hn hi hb
  have h5:0≤i:=by omega
  have hlt:i.toNat < s.prog.length:=by omega
  have hni:n=i.toNat:=by omega
  have h4:=ih (i - 1) (by omega) (by omega) (by omega)
  have h6:idxAt (fun m:Mod=>m.name == a.name) (s.prog.drop n) n=if s.prog[i.toNat].name=a.name then i else idxAt (fun m:Mod=>m.name == a.name) (s.prog.drop (n + 1)) ((n:Int) + 1):=by
   subst hni
   rw [List.drop_eq_getElem_cons hlt]
   simp only [idxAt,beq_iff_eq]
   rw [show ((i.toNat:Nat):Int)=i by omega]
  rw [h6] at h4
  rw [FL4_1]
  simp only [L4_1]
  have e1:((n + 1:Nat):Int)=(n:Int) + 1:=by omega
  rw [e1]
  by_cases hne:s.prog[i.toNat].name=a.name
  ·rw [if_pos hne] at h4
   simp at h4
   simp (disch:=omega) [h5,IX22,hne,wrap_in,K4_0,h4]
  ·rw [if_neg hne] at h4
   simp at h4
   simp (disch:=omega) [h5,IX22,hne,wrap_in,K4_0,h4]
theorem t4 (s:Seen) (S0:s.Lim) (a:Adv) (A0:a.Lim):callW pg 4 [s.av,a.av] = M.pure (.bool true):=by
 rw [C4,cl_seen,cl_adv]
 obtain ⟨b,hb1,hb2⟩:=t9 S0 A0
 have key:S4 (callW pg) fixW s.av a.av=M.pure (.bool true):=by
  cases b with
  | false=>simp [S4,t8,hb1]
  | true =>
   obtain ⟨⟨B,A⟩,F⟩:=hb2 rfl
   have hFl:=F.len
   have h1:=loopB4 S0 B A F s.prog.length ((s.prog.length:Int) - 1) (by omega) (by omega) (by omega)
   rw [List.drop_length] at h1
   have h2:idxAt (fun m:Mod=>m.name == a.name) [] (s.prog.length:Int) = -1:=rfl
   rw [h2] at h1
   simp at h1
   simp (disch:=omega) [S4,t8,hb1,wrap_in]
   simp [h1]
 rw [key]
 exact isoP_bool true
end Go.Proofs.YtnipfhmghjdnmaaGreat
