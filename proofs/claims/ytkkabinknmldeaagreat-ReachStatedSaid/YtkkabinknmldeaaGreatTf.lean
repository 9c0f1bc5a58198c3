/- What the functions of the seat compute, part 6: the texts of the claim, one behind the other. Conditions: bounds, as each theorem names them. -/
import Derived.Test.YtkkabinknmldeaaGreatTe
import Derived.Test.YtkkabinknmldeaaGreatProg
import Derived.Test.YtkkabinknmldeaaGreatLd
import Derived.Test.YtkkabinknmldeaaGreatTd
import Derived.Test.YtkkabinknmldeaaGreatTc
import Derived.Test.YtkkabinknmldeaaGreatTb
set_option linter.unusedSimpArgs false
set_option linter.unusedVariables false
namespace Go.Proofs.YtkkabinknmldeaaGreat
open Go Go.Av Go.Av.Ap Go.RowKit
set_option maxRecDepth 1000000
section
variable {H:Type} {enc:TypeId×Value→H} {W:World}
theorem kP:reachBytes=140737488351232:=rfl
theorem AQ(N:Nat):Rd enc Tryz.prog W N 22 (fun l:List aW=>[strs l]) (fun l=>l.length≤8796093022208):=
 (kN (kO Tryz.underlying9) Tryz.underlying22 (by kernel_rfl:_=1) (by decide) (by kernel_rfl:_=16) (D8 fun _=>rfl)).map id (fun _=>rfl) (fun l h=>by have:=h.1;rw[kP] at this;simp only[id];omega)
theorem Exp.lim_mk{o n:Int}{s m:aW}{ns:List aW}{es:List Exp}(h1:ns.length≤8796093022208)(h2:es.length≤140737488355328)(h3:∀ v∈es,v.Lim):(Exp.mk o n s m ns es).Lim:=fun j=>match j with
 | 0=>trivial
 | j + 1=>⟨h1,h2,fun x hx=>h3 x hx j⟩
theorem Ty.lim_mk{k:Int}{fs:List cr}(h2:fs.length≤140737488355328)(h3:∀ v∈fs,v.2.Lim):(Ty.mk k fs).Lim:=fun j=>match j with
 | 0=>trivial
 | j + 1=>⟨h2,fun x hx=>h3 x hx j⟩
theorem rK{N:Nat}(h:Rd enc Tryz.prog W N 74 (fun v:Exp=>v.cells) Exp.Lim):Rd enc Tryz.prog W N 24 (fun l:List Exp=>[cG l]) (fun l=>l.length≤140737488355328∧∀ v∈l,v.Lim):=
 (kN h Tryz.underlying24 (by kernel_rfl:_=6) (by decide) (by kernel_rfl:_=96) (ev:=Exp.av) (kZ fun v=>rfl)).map id (fun l=>by simp[cG,iz]) (fun l h=>⟨by have:=h.1;rw[kP] at this;simp only[id];omega,h.2⟩)
theorem zC:∀ N,Rd enc Tryz.prog W N 74 (fun v:Exp=>v.cells) Exp.Lim
 | 0=>.zero
 | N + 1=>(fZ Tryz.underlying74 (by kernel_rfl) (be (uS Tryz.underlying3) rfl (by kernel_rfl:_=1) (be (uS Tryz.underlying3) rfl (by kernel_rfl:_=1) (be (kO Tryz.underlying9) rfl (by kernel_rfl:_=1) (be (kO Tryz.underlying9) rfl (by kernel_rfl:_=1)
   (be (AQ N) rfl (by kernel_rfl:_=1) (be (rK (zC N)) rfl (by kernel_rfl:_=1) iJ))))))).map (fun x=>Exp.mk x.1 x.2.1 x.2.2.1 x.2.2.2.1 x.2.2.2.2.1 x.2.2.2.2.2.1) (fun x=>by simp[Exp.cells_eq,Exp.op,Exp.n,Exp.s,Exp.m,Exp.names,Exp.args]) (fun x h=>Exp.lim_mk h.2.2.2.2.1 h.2.2.2.2.2.1.1 h.2.2.2.2.2.1.2)
theorem uQ(N:Nat):Rd enc Tryz.prog W N 24 (fun l:List Exp=>[cG l]) (fun l=>l.length≤140737488355328∧∀ v∈l,v.Lim):=rK (zC N)
theorem rL{N:Nat}(h:Rd enc Tryz.prog W N 72 (fun v:Ty=>v.cells) Ty.Lim):Rd enc Tryz.prog W (N + 1) 23 (fun l:List cr=>[aH l]) (fun l=>l.length≤140737488355328∧∀ v∈l,v.2.Lim):=
 (kN ((fZ Tryz.underlying87 (by kernel_rfl) (be (kO Tryz.underlying9) rfl (by kernel_rfl:_=1) (be h rfl (by kernel_rfl:_=2) iJ))).map (fun x=>((x.1,x.2.1):cr)) (cells':=fun f=>ab (bj f)) (Ok':=fun f=>f.2.Lim) (fun x=>by simp[Ty.cells_eq]) (fun x h=>h.2.1))
  Tryz.underlying23 (by kernel_rfl:_=3) (by decide) (by kernel_rfl:_=48) (ev:=bj) (kZ fun v=>by rw[iB];rfl)).map id (fun l=>by simp[aH,dn]) (fun l h=>⟨by have:=h.1;rw[kP] at this;simp only[id];omega,h.2⟩)
theorem Fi:∀ N,Rd enc Tryz.prog W N 72 (fun v:Ty=>v.cells) Ty.Lim
 | 0=>.zero
 | N + 1=>(fZ Tryz.underlying72 (by kernel_rfl) (be (uS Tryz.underlying3) rfl (by kernel_rfl:_=1) (be ((rL (Fi N)).le (Nat.le_succ N)) rfl (by kernel_rfl:_=1) iJ))).map (fun x=>Ty.mk x.1 x.2.1)
   (fun x=>by simp[Ty.cells_eq,Ty.kind,Ty.fields]) (fun x h=>Ty.lim_mk h.2.1.1 h.2.1.2)
theorem uR(N:Nat):Rd enc Tryz.prog W N 23 (fun l:List cr=>[aH l]) (fun l=>l.length≤140737488355328∧∀ v∈l,v.2.Lim):=(rL (Fi N)).le (Nat.le_succ N)
theorem K3(N:Nat):Rd enc Tryz.prog W (N + 1) 76 (fun f:Fun=>ab f.av) Fun.Lim:=
 (fZ Tryz.underlying76 (by kernel_rfl) (be (kO Tryz.underlying9) rfl (by kernel_rfl:_=1) (be (AP Tryz.underlying4) rfl (by kernel_rfl:_=1) (be (uR N) rfl (by kernel_rfl:_=1) (be (Fi N) rfl (by kernel_rfl:_=2)
  (be (uS Tryz.underlying3) rfl (by kernel_rfl:_=1) (be (zC N) rfl (by kernel_rfl:_=6) iJ))))))).map (fun x=>(⟨x.1,x.2.1,x.2.2.1,x.2.2.2.1,x.2.2.2.2.1,x.2.2.2.2.2.1⟩:Fun))
  (fun x=>by simp[Ty.cells_eq,Exp.cells_eq]) (fun x h=>⟨h.2.2.1.1,h.2.2.1.2,h.2.2.2.1,h.2.2.2.2.2.1⟩)
theorem Hn(N:Nat):Rd enc Tryz.prog W N 25 (fun l:List Fun=>[eQ l]) (fun l=>l.length≤140737488355328∧∀ v∈l,v.Lim):=
 ((kN (K3 N) Tryz.underlying25 (by kernel_rfl:_=12) (by decide) (by kernel_rfl:_=184) (ev:=Fun.av) (kZ fun v=>rfl)).map id (fun l=>by simp[eQ]) (fun l h=>⟨by have:=h.1;rw[kP] at this;simp only[id];omega,h.2⟩)).le (Nat.le_succ N)
theorem K4(N:Nat):Rd enc Tryz.prog W (N + 1) 29 (fun m:Mod=>ab m.av) Mod.Lim:=
 (fZ Tryz.underlying29 (by kernel_rfl) (be (kO Tryz.underlying9) rfl (by kernel_rfl:_=1) (be (AQ N) rfl (by kernel_rfl:_=1) (be (uR N) rfl (by kernel_rfl:_=1) (be (uQ N) rfl (by kernel_rfl:_=1)
  (be (Hn N) rfl (by kernel_rfl:_=1) (be (AP Tryz.underlying4) rfl (by kernel_rfl:_=1)
  (be ((fZ Tryz.underlying27 (by kernel_rfl) (be (uR N) rfl (by kernel_rfl:_=1) (be (uQ N) rfl (by kernel_rfl:_=1) (be (uQ N) rfl (by kernel_rfl:_=1) iJ)))).le (Nat.le_succ N)) rfl (by kernel_rfl:_=3) iJ)))))))).map
  (fun x=>(⟨x.1,x.2.1,x.2.2.1,x.2.2.2.1,x.2.2.2.2.1,x.2.2.2.2.2.1,x.2.2.2.2.2.2.1.1,x.2.2.2.2.2.2.1.2.1,x.2.2.2.2.2.2.1.2.2.1⟩:Mod))
  (fun x=>by simp) (fun x h=>⟨by have:=h.2.1;simp only;omega,h.2.2.1.1,h.2.2.1.2,h.2.2.2.1.1,h.2.2.2.1.2,h.2.2.2.2.1.1,h.2.2.2.2.1.2,h.2.2.2.2.2.2.1.1.1,h.2.2.2.2.2.2.1.1.2,h.2.2.2.2.2.2.1.2.1.1,h.2.2.2.2.2.2.1.2.1.2,h.2.2.2.2.2.2.1.2.2.1.1,h.2.2.2.2.2.2.1.2.2.1.2⟩)
theorem Ho(N:Nat):Rd enc Tryz.prog W N 42 (fun l:List Mod=>[mods l]) (fun l=>l.length≤140737488355328∧∀ v∈l,v.Lim):=
 ((kN (K4 N) Tryz.underlying42 (by kernel_rfl:_=9) (by decide) (by kernel_rfl:_=192) (ev:=Mod.av) (kZ fun v=>rfl)).map id (fun l=>by simp[mods]) (fun l h=>⟨by have:=h.1;rw[kP] at this;simp only[id];omega,h.2⟩)).le (Nat.le_succ N)
theorem K5:∀ N,Rd enc Tryz.prog W N 65 (fun r:aD=>ab (aP r)) (fun _=>True)
 | 0=>.zero
 | _ + 1=>(fZ Tryz.underlying65 (by kernel_rfl) (be (kO Tryz.underlying9) rfl (by kernel_rfl:_=1) (be (kO Tryz.underlying9) rfl (by kernel_rfl:_=1) iJ))).map (fun x=>((x.1,x.2.1):aD)) (fun x=>rfl) (fun x h=>trivial)
end
end Go.Proofs.YtkkabinknmldeaaGreat
namespace Go.Proofs.YtkkabinknmldeaaGreat
open Go Go.Av Go.Av.Ap
set_option maxRecDepth 100000
@[simp] theorem Mz(t:Nat)(a b:Int):am T .geq t (.int .u8 a) (.int .u8 b)=some (.bool (decide (b≤a))):=rfl
@[simp] theorem MA(t:Nat)(a b:Int):am T .leq t (.int .u8 a) (.int .u8 b)=some (.bool (decide (a≤b))):=rfl
@[simp] theorem A4(t:Nat)(a b:aW):am T .leq t (.str a) (.str b)=some (.bool (aG a b||a== b)):=rfl
theorem G4(f:AV)(F:cr→Bool)(l:List cr)(hb:l.length≤4611686018427387904)(hf:∀ x∈l,bH (ai pg) f [bj x]=M.pure (.bool (F x))):∀(n:Nat)(i:Int),l.length - i.toNat=n→0≤i→i≤l.length→
  af (L228_0 (ai pg) af) [aH l,f,.int .i64 l.length,.int .i64 i]=M.pure (.int .i64 (cB F (l.drop i.toNat) i)):=by
 intro n
 induction n with
 | zero=>
  intro i hn hi hl
  rw[FL228_0]
  simp only[L228_0]
  have h1:¬ (i < (l.length:Int)):=by omega
  have h2:l.drop i.toNat=[]:=List.drop_eq_nil_of_le (by omega)
  simp[h1,h2,cB]
 | succ n ih=>
  intro i hn hi hl
  have h1:i < (l.length:Int):=by omega
  have hlt:i.toNat < l.length:=by omega
  have h2:cB F (l.drop i.toNat) i=if F l[i.toNat]=true then i else cB F (l.drop (i.toNat + 1)) (i + 1):=by rw[List.drop_eq_getElem_cons hlt];rfl
  have h3:=hf l[i.toNat] (List.getElem_mem hlt)
  have h4:=ih (i + 1) (by omega) (by omega) (by omega)
  rw[show (i + 1).toNat=i.toNat + 1 by omega] at h4
  rw[FL228_0]
  simp only[L228_0]
  simp (disch:=omega) [h1,br,pz,h3,h2]
  cases F l[i.toNat]
  ·simpa using h4
  ·simp
theorem t228(f:AV)(F:cr→Bool)(l:List cr)(hb:l.length≤4611686018427387904)(hc:∀ g,cl g f=f)(hf:∀ x∈l,bH (ai pg) f [bj x]=M.pure (.bool (F x))):ai pg 228 [aH l,f]=M.pure (.int .i64 (cB F l 0)):=by
 rw[C228]
 simp[S228,hc,G4 f F l hb hf l.length 0 rfl (by omega) (by omega)]
theorem t151(f:AV)(F:cr→Bool)(l:List cr)(hb:l.length≤4611686018427387904)(hc:∀ g,cl g f=f)(hf:∀ x∈l,bH (ai pg) f [bj x]=M.pure (.bool (F x))):ai pg 151 [aH l,f]=M.pure (.bool (l.any F)):=by
 rw[C151]
 simp[S151,hc,t228 f F l hb hc hf,nV]
theorem G2(f:AV)(F:Ty→Bool)(l:List Ty)(hb:l.length≤4611686018427387904)(hf:∀ x∈l,bH (ai pg) f [Ty.av x]=M.pure (.bool (F x))):∀(n:Nat)(i:Int),l.length - i.toNat=n→0≤i→i≤l.length→
  af (L222_0 (ai pg) af) [gn l,f,.int .i64 l.length,.int .i64 i]=M.pure (.int .i64 (cB F (l.drop i.toNat) i)):=by
 intro n
 induction n with
 | zero=>
  intro i hn hi hl
  rw[FL222_0]
  simp only[L222_0]
  have h1:¬ (i < (l.length:Int)):=by omega
  have h2:l.drop i.toNat=[]:=List.drop_eq_nil_of_le (by omega)
  simp[h1,h2,cB]
 | succ n ih=>
  intro i hn hi hl
  have h1:i < (l.length:Int):=by omega
  have hlt:i.toNat < l.length:=by omega
  have h2:cB F (l.drop i.toNat) i=if F l[i.toNat]=true then i else cB F (l.drop (i.toNat + 1)) (i + 1):=by rw[List.drop_eq_getElem_cons hlt];rfl
  have h3:=hf l[i.toNat] (List.getElem_mem hlt)
  have h4:=ih (i + 1) (by omega) (by omega) (by omega)
  rw[show (i + 1).toNat=i.toNat + 1 by omega] at h4
  rw[FL222_0]
  simp only[L222_0]
  simp (disch:=omega) [h1,br,oJ,h3,h2]
  cases F l[i.toNat]
  ·simpa using h4
  ·simp
theorem t222(f:AV)(F:Ty→Bool)(l:List Ty)(hb:l.length≤4611686018427387904)(hc:∀ g,cl g f=f)(hf:∀ x∈l,bH (ai pg) f [Ty.av x]=M.pure (.bool (F x))):ai pg 222 [gn l,f]=M.pure (.int .i64 (cB F l 0)):=by
 rw[C222]
 simp[S222,hc,G2 f F l hb hf l.length 0 rfl (by omega) (by omega)]
theorem t142(f:AV)(F:Ty→Bool)(l:List Ty)(hb:l.length≤4611686018427387904)(hc:∀ g,cl g f=f)(hf:∀ x∈l,bH (ai pg) f [Ty.av x]=M.pure (.bool (F x))):ai pg 142 [gn l,f]=M.pure (.bool (l.any F)):=by
 rw[C142]
 simp[S142,hc,t222 f F l hb hc hf,nV]
theorem G7(f:AV)(F:Sig→Bool)(l:List Sig)(hb:l.length≤4611686018427387904)(hf:∀ x∈l,bH (ai pg) f [Sig.av x]=M.pure (.bool (F x))):∀(n:Nat)(i:Int),l.length - i.toNat=n→0≤i→i≤l.length→
  af (L290_0 (ai pg) af) [sigs l,f,.int .i64 l.length,.int .i64 i]=M.pure (.int .i64 (cB F (l.drop i.toNat) i)):=by
 intro n
 induction n with
 | zero=>
  intro i hn hi hl
  rw[FL290_0]
  simp only[L290_0]
  have h1:¬ (i < (l.length:Int)):=by omega
  have h2:l.drop i.toNat=[]:=List.drop_eq_nil_of_le (by omega)
  simp[h1,h2,cB]
 | succ n ih=>
  intro i hn hi hl
  have h1:i < (l.length:Int):=by omega
  have hlt:i.toNat < l.length:=by omega
  have h2:cB F (l.drop i.toNat) i=if F l[i.toNat]=true then i else cB F (l.drop (i.toNat + 1)) (i + 1):=by rw[List.drop_eq_getElem_cons hlt];rfl
  have h3:=hf l[i.toNat] (List.getElem_mem hlt)
  have h4:=ih (i + 1) (by omega) (by omega) (by omega)
  rw[show (i + 1).toNat=i.toNat + 1 by omega] at h4
  rw[FL290_0]
  simp only[L290_0]
  simp (disch:=omega) [h1,br,Iy,h3,h2]
  cases F l[i.toNat]
  ·simpa using h4
  ·simp
theorem t290(f:AV)(F:Sig→Bool)(l:List Sig)(hb:l.length≤4611686018427387904)(hc:∀ g,cl g f=f)(hf:∀ x∈l,bH (ai pg) f [Sig.av x]=M.pure (.bool (F x))):ai pg 290 [sigs l,f]=M.pure (.int .i64 (cB F l 0)):=by
 rw[C290]
 simp[S290,hc,G7 f F l hb hf l.length 0 rfl (by omega) (by omega)]
theorem t229(b:UInt8):ai pg 229 [.int .u8 b.toNat]=M.pure (.bool (pM b)):=by
 rw[C229]
 have e:decide ((b.toNat:Int)≤122)=decide (b.toNat≤122):=decide_eq_decide.2 (by omega)
 have e2:decide (97≤(b.toNat:Int))=decide (97≤b.toNat):=decide_eq_decide.2 (by omega)
 simp[S229,pM,e,e2]
theorem t232(b:UInt8):ai pg 232 [.int .u8 b.toNat]=M.pure (.bool (yP b)):=by
 rw[C232]
 have e:decide ((b.toNat:Int)≤57)=decide (b.toNat≤57):=decide_eq_decide.2 (by omega)
 have e2:decide (48≤(b.toNat:Int))=decide (48≤b.toNat):=decide_eq_decide.2 (by omega)
 simp[S232,yP,e,e2]
theorem t231(b:UInt8):ai pg 231 [.int .u8 b.toNat]=M.pure (.bool (qc b)):=by
 rw[C231]
 simp[S231,t229,t232,qc]
theorem Im{s:aW}{i:Nat}(h:i < s.length):fW T 9 (.str s) (.int .i64 (i:Int))=some (.int .u8 (s[i].toNat:Int)):=by
 have e1:fW T 9 (.str s) (.int .i64 (i:Int))=(if (i:Int) < 0 then none else s[(i:Int).toNat]?.map fun b=>.int .u8 b.toNat):=rfl
 rw[e1,if_neg (by omega),Int.toNat_natCast,List.getElem?_eq_getElem h]
 rfl
theorem G5(F:UInt8→Bool)(f:AV)(s:aW)(hb:s.length≤4611686018427387904)(hf:∀ b:UInt8,bH (ai pg) f [.int .u8 b.toNat]=M.pure (.bool (F b))):∀(n i:Nat),s.length - i=n→i≤s.length→
  af (L230_0 (ai pg) af) [.str s,f,.int .i64 i]=M.pure (.int .i64 ((i + ((s.drop i).takeWhile F).length:Nat):Int)):=by
 intro n
 induction n with
 | zero=>
  intro i hn hi
  rw[FL230_0]
  simp only[L230_0]
  have h1:¬ ((i:Int) < (s.length:Int)):=by omega
  have h2:s.drop i=[]:=List.drop_eq_nil_of_le (by omega)
  simp[h1,h2]
 | succ n ih=>
  intro i hn hi
  have hlt:i < s.length:=by omega
  have h1:(i:Int) < (s.length:Int):=by omega
  have h2:s.drop i=s[i]:: s.drop (i + 1):=List.drop_eq_getElem_cons hlt
  have h4:=ih (i + 1) (by omega) (by omega)
  have hw:IntKind.i64.wrap ((i:Int) + 1)=((i + 1:Nat):Int):=bG (by omega)
  rw[FL230_0]
  simp only[L230_0,bu,bD,Oh,aT,cN,h1,decide_true,jH,Im hlt,hf,bi,rF,bz,fA,hw,h4,h2,List.takeWhile_cons]
  cases F s[i]
  ·simp
  ·rw[if_pos rfl,if_pos rfl]
   congr 3
   simp
   omega
theorem t153(s:aW):ai pg 153 [.str s]=M.pure (.bool (py s)):=by
 rw[C153]
 by_cases hs:s=[]
 ·subst hs
  simp[S153,py]
 ·have hs':(s== [])=false:=beq_eq_false_iff_ne.2 hs
  have hpos:0 < s.length:=List.length_pos_iff.2 hs
  have h0:=Im (s:=s) (i:=0) hpos
  have hd:s[0]=s.headD 0:=by cases s with | nil=>exact absurd rfl hs | cons c s=>rfl
  rw[hd] at h0
  simp at h0
  by_cases hl:s.length≤20
  ·have h1:=G5 qc (.fn (.func 231) [] []) s (by omega) (fun b=>t231 b) s.length 0 (by simp) (by simp)
   have hsp:ai pg 230 [.str s,.fn (.func 231) [] []]=M.pure (.int .i64 (((s.takeWhile qc).length:Nat):Int)):=by
    rw[C230]
    simp only[S230,cl,ee]
    rw[show (AV.int .i64 0)=AV.int .i64 ((0:Nat):Int) from rfl,h1]
    simp
   have e1:decide (20 < (s.length:Int))=false:=by rw[decide_eq_false_iff_not];omega
   have e3:decide (20 < s.length)=false:=by rw[decide_eq_false_iff_not];omega
   have e4:decide (s.length≤20)=true:=by simpa using hl
   simp[S153,hs',h0,t229,hsp,e1,e3,e4,py]
  ·have e1:decide (20 < (s.length:Int))=true:=by rw[decide_eq_true_eq];omega
   have e3:decide (20 < s.length)=true:=by rw[decide_eq_true_eq];omega
   have e4:decide (s.length≤20)=false:=by simpa using hl
   simp[S153,hs',h0,t229,e1,e3,e4,py]
theorem t154(s:aW):ai pg 154 [.str lp,.str s]=M.pure (.bool (Lib.contains lp s)):=by
 rw[cS hOther (E:=jj) rfl]
 rfl
theorem AZ(t:Nat)(a b:aW):am T .add t (.str a) (.str b)=if a.length + b.length≤4611686018427387904 then some (.str (a++b)) else none:=rfl
theorem t53(s:aW):ai pg 53 [.str s]=M.pure (.bool (cX s)):=by
 rw[C53]
 have h1:=t153 s
 unfold cX
 cases hw:py s with
 | false=>
  rw[hw] at h1
  simp[S53,h1]
 | true=>
  have hl:=Cw hw
  rw[hw] at h1
  have h2:=t154 ([32]++s++[32])
  unfold lp at h2
  have e1:am T .add 9 (.str [32]) (.str s)=some (.str ([32]++s)):=by rw[AZ,if_pos (by simp;omega)]
  have e2:am T .add 9 (.str ([32]++s)) (.str [32])=some (.str ([32]++s++[32])):=by rw[AZ,if_pos (by simp;omega)]
  simp only[S53,yL,h1,bi,jH,e1,aT,e2,h2,jT,bu,rF,lg,Bool.true_and]
  rfl
theorem GW{t:Ty}(h:t.Lim)(k:Nat)(hk:k < t.fields.length):(t.fields[k]!).2.Lim:=by
 rw[getElem!_pos t.fields k hk]
 exact h.kid (List.getElem_mem hk)
theorem t155:∀(d:Nat),d≤4→∀(t:Ty),t.Lim→ai pg 155 [t.av,.int .i64 d]=M.pure (.bool (dC d t))
 | 0,_,t,_=>by
  rw[C155]
  simp[S155,dC]
 | d + 1,hd,t,ht=>by
  have ih:=t155 d (by omega)
  have hlen:=ht.len
  have hd1:IntKind.i64.wrap ((((d + 1:Nat)):Int) - 1)=(d:Int):=tV (by omega)
  have hloop:=GI (F:=L155_0 (ai pg) af) (FL155_0 (ai pg)) (fun k=>[.int .i64 ((d + 1:Nat):Int),.ip (ab t.av),aH t.fields,.int .i64 t.fields.length,.int .i64 k]) t.fields.length
   (fun k=>(cX (t.fields[k]!).1&&dC d (t.fields[k]!).2)&&(decide (k=0)||fb (t.fields[k - 1]!).1 (t.fields[k]!).1))
   (by simp[L155_0]) (fun k hk=>by
    have h1:(k:Int) < (t.fields.length:Int):=by omega
    have hix:=pz (l:=t.fields) (n:=(k:Int)) (by omega) h1
    rw[Int.toNat_natCast] at hix
    have hm:t.fields[k]! ∈t.fields:=by rw[getElem!_pos t.fields k hk];exact List.getElem_mem hk
    have h2:=t53 (t.fields[k]!).1
    have h3:=ih (t.fields[k]!).2 (GW ht k hk)
    have hw:IntKind.i64.wrap ((k:Int) + 1)=(k:Int) + 1:=by rw[bG (by omega)];simp
    have hd0:IntKind.i64.wrap (d:Int)=(d:Int):=FM (by omega)
    generalize t.fields[k]! = f at hix h2 h3 hm ⊢
    rcases Nat.eq_zero_or_pos k with hk0 | hk0
    ·subst hk0
     have hix0:ak T 23 (aH t.fields) (.int .i64 0)=some (.ip (ab (bj f))):=hix
     have hw0:IntKind.i64.wrap 1=1:=rfl
     simp[L155_0,hix0,h2,h3,hw0,hd0,hk]
     cases cX f.1 <;> cases dC d f.2 <;> simp
    ·have hp:IntKind.i64.wrap ((k:Int) - 1)=((k - 1:Nat):Int):=by
      rw[br (by omega) (by omega)];omega
     have h4:((k - 1:Nat):Int) < (t.fields.length:Int):=by omega
     have hix2:=pz (l:=t.fields) (n:=((k - 1:Nat):Int)) (by omega) h4
     rw[Int.toNat_natCast] at hix2
     generalize t.fields[k - 1]! = g at hix2 ⊢
     have hk1:¬ k=0:=by omega
     simp[L155_0,h1,hix,h2,h3,hw,hd0,hp,hix2,hk0,hk1,hk]
     cases cX f.1 <;> simp
     cases h5:aG f.1 g.1 <;> cases dC d f.2 <;> by_cases h6:f.1=g.1 <;> simp[fb,h5,h6]) 0 (Nat.zero_le _)
  have hall:((List.range' 0 t.fields.length).all fun k=>(cX (t.fields[k]!).1&&dC d (t.fields[k]!).2)&&(decide (k=0)||fb (t.fields[k - 1]!).1 (t.fields[k]!).1))=(t.fields.all (fun f=>cX f.1&&dC d f.2)&&nF (fun a b=>fb a.1 b.1) t.fields):=
   zY (fun f:cr=>cX f.1&&dC d f.2) (fun a b=>fb a.1 b.1) t.fields
  rw[Nat.sub_zero,hall] at hloop
  rw[C155]
  have h0:¬ ((d:Int) + 1=0):=by omega
  have hl2:af (L155_0 (ai pg) af) [.int .i64 ((d:Int) + 1),.ip [.int .i64 t.kind,aH t.fields],aH t.fields,.int .i64 t.fields.length,.int .i64 0]=M.pure (.bool (t.fields.all (fun f=>cX f.1&&dC d f.2)&&nF (fun a b=>fb a.1 b.1) t.fields)):=by
   simpa using hloop
  have hR:dC (d + 1) t=if ((t.kind < 0∨3≤t.kind)∨8 < (t.fields.length:Int))∨¬ t.kind=2∧0 < t.fields.length then false else (t.fields.all (fun f=>cX f.1&&dC d f.2)&&nF (fun a b=>fb a.1 b.1) t.fields):=by
   rw[i7]
   generalize (t.fields.all (fun f=>cX f.1&&dC d f.2)&&nF (fun a b=>fb a.1 b.1) t.fields)=q
   generalize t.fields.length=n
   generalize t.kind=k
   split
   ·rename_i hc
    cases q
    ·simp
    ·simp only[Bool.and_true,Bool.and_eq_false_iff,decide_eq_false_iff_not,Bool.or_eq_false_iff,beq_eq_false_iff_ne]
     rcases hc with ((h | h) | h) | h
     ·exact .inl (.inl (.inl (by omega)))
     ·exact .inl (.inl (.inr (by omega)))
     ·exact .inl (.inr (by omega))
     ·exact .inr ⟨h.1,by omega⟩
   ·rename_i hc
    have e1:decide (0≤k)=true:=by rw[decide_eq_true_eq];omega
    have e2:decide (k < 3)=true:=by rw[decide_eq_true_eq];omega
    have e3:decide (n≤8)=true:=by rw[decide_eq_true_eq];omega
    have e4:(k== 2||n== 0)=true:=by
     rw[Bool.or_eq_true,beq_iff_eq,beq_iff_eq];omega
    rw[e1,e2,e3,e4]
    simp
  rw[hR]
  simp[S155,h0,hl2]
theorem t55(t:Ty)(ht:t.Lim):ai pg 55 [t.av]=M.pure (.bool (bO t)):=by
 rw[C55]
 have:ai pg 155 [t.av,.int .i64 4]=M.pure (.bool (dC 4 t)):=t155 4 (by omega) t ht
 simp[S55,this]
theorem t141(t:Ty)(ht:t.Lim):ai pg 141 [t.av]=M.pure (.bool (bO t)):=by
 rw[C141]
 simp[S141,t55 t ht]
theorem o4:(l:List cr)→fU (eq l)=some (l.map fun f=>(f.1,f.2.kind,eq f.2.fields))
 | []=>rfl
 | f:: l=>by simp[eq,fU,o4 l,iB,wu,aH]
theorem tv{α β:Type}(g:α→β)(p:β→Bool):(l:List α)→cm p (l.map g)=(cm (fun x=>p (g x)) l).map g
 | []=>rfl
 | x:: l=>by
  simp only[List.map_cons,cm,tv g p l]
  cases cm (fun x=>p (g x)) l with
  | some y=>rfl
  | none=>cases p (g x) <;> rfl
def ty0:Ty:=.mk 0 []
theorem t145(l:List cr)(hl:l.length≤1000000000)(s:aW):ai pg 145 [aH l,.str s]=M.pure (.tup [((cm (fun f=>f.1== s) l).map (·.2)).getD ty0 |>.av,.bool (cm (fun f=>f.1== s) l).isSome]):=by
 rw[cS hOther (E:=lh) rfl]
 unfold lh aH
 simp only[o4,List.length_map,hl,decide_true,cond_true,zo,tv]
 cases cm (fun f:cr=>f.1== s) l with
 | none=>rfl
 | some f=>simp[ah,M.pure,Ty.av,Ty.cells_eq,aH];rfl
def Ty.Short:Nat→Ty→Prop
 | 0,_=>True
 | n + 1,t=>t.fields.length≤1000000000∧∀ f∈t.fields,Ty.Short n f.2
theorem nq:∀(d:Nat)(t:Ty),dC d t=true→∀ n,Ty.Short n t
 | 0,t,h,_=>by cases h
 | d + 1,t,h,0=>trivial
 | d + 1,t,h,n + 1=>by
  rw[i7] at h
  simp only[Bool.and_eq_true,decide_eq_true_eq,List.all_eq_true] at h
  exact⟨by omega,fun f hf=>nq d f.2 (h.2.1 f hf).2 n⟩
theorem ic{α:Type}{p:α→Bool}:{l:List α} →{x:α} →cm p l=some x→x∈l∧p x=true
 | [],x,h=>by cases h
 | y:: l,x,h=>by
  simp only[cm] at h
  cases h2:cm p l with
  | some z=>
   rw[h2] at h
   cases h
   have:=ic h2
   exact⟨List.mem_cons_of_mem _ this.1,this.2⟩
  | none=>
   rw[h2] at h
   cases h3:p y with
   | true=>rw[h3] at h;cases h;exact⟨List.mem_cons_self,h3⟩
   | false=>rw[h3] at h;cases h
theorem xk{α:Type}(P:α→Bool)(l:List α):(!l.any fun x=>!P x)=l.all P:=by simp[List.not_any_eq_all_not]
theorem t52:∀(n:Nat)(b a:Ty),Ty.Short n a→Ty.Short n b→dC n b=true→ai pg 52 [a.av,b.av]=M.pure (.bool (bW a b))
 | 0,b,a,_,_,h=>by cases h
 | n + 1,b,a,ha,hb,h=>by
  have ih:=t52 n
  rw[i7] at h
  simp only[Bool.and_eq_true,decide_eq_true_eq,List.all_eq_true] at h
  have hf:∀ f∈b.fields,bH (ai pg) (.fn (.func 152) [] [.ip (ab a.av)]) [bj f]=M.pure (.bool (!(match cm (fun z=>z.1== f.1) a.fields with | some z=>bW z.2 f.2 | none=>false))):=by
   intro f hfm
   show ai pg 152 [bj f,.ip (ab a.av)]=_
   have h1:=t145 a.fields ha.1 f.1
   rw[C152]
   cases hl:cm (fun z:cr=>z.1== f.1) a.fields with
   | none=>
    rw[hl] at h1
    simp[S152,h1,cl,ee]
   | some z=>
    rw[hl] at h1
    have h2:=ih f.2 z.2 (ha.2 z (ic hl).1) (hb.2 f hfm) (h.2.1 f hfm).2
    simp[S152,h1,cl,ee,h2]
  have h2:=t151 (.fn (.func 152) [] [.ip (ab a.av)]) _ b.fields (by have:=hb.1;omega) (fun g=>by simp[cl,ee]) hf
  rw[C52,Bh]
  simp at h2
  simp[S52,h2]
  rw[xk]
  rfl
@[simp] theorem qf(t:Nat)(a b:Int):am T .andNot t (.int .i64 a) (.int .i64 b)=some (.int .i64 (dG a b)):=rfl
theorem aV{α β:Type}{m:M α}{a:α}{h h':Hp}(e:m h= .ok a h')(f:α→M β):ae m f h=f a h':=by simp only[ae,e]
theorem Ie(x:cr):(ab (bj x)).length=3:=by simp
theorem kw(l:List cr):aH l= .sl (l.map bj):=by rw[aH,dn]
theorem t81(t:Ty)(h:bO t=true):ai pg 81 [t.av]=M.pure t.av:=by
 have e0:ai pg 81 [t.av]=kW (ai pg) [t.av]:=cS hOther rfl _
 rw[e0]
 simp only[kW,FI 5 t (EP 4 t (tz 4 t h)),cond_true]
 rfl
theorem l9{α:Type}(F:α→Bool):(l:List α)→(i:Int)→(l.find? F=none∧cB F l i= -1)∨∃(k:Nat)(x:α),l.find? F=some x∧l[k]? = some x∧cB F l i=i + k
 | [],i=>.inl ⟨rfl,rfl⟩
 | x:: l,i=>by
  cases h:F x with
  | true=>exact .inr ⟨0,x,by simp[h],rfl,by simp[cB,h]⟩
  | false=>
   rcases l9 F l (i + 1) with ⟨h1,h2⟩ | ⟨k,y,h1,h2,h3⟩
   ·exact .inl ⟨by simp[h,h1],by simp[cB,h,h2]⟩
   ·exact .inr ⟨k + 1,y,by simp[h,h1],by simpa using h2,by simp[cB,h,h3];omega⟩
def eb(t:Ty):Prop:=∀ n,Ty.Short n t
theorem eb.len{t:Ty}(h:eb t):t.fields.length≤1000000000:=(h 1).1
theorem eb.kid{t:Ty}(h:eb t){f:cr}(hf:f∈t.fields):eb f.2:=fun n=>(h (n + 1)).2 f hf
theorem fj{d:Nat}{t:Ty}(h:dC d t=true):eb t:=nq d t h
theorem uY{k:Int}{fs:List cr}(h:fs.length≤1000000000)(hf:∀ f∈fs,eb f.2):eb (.mk k fs):=fun n=>by
 cases n with
 | zero=>exact trivial
 | succ n=>exact⟨h,fun f hm=>hf f hm n⟩
theorem Aq{t:Ty}{f:cr}(h:f∈t.fields):SizeOf.sizeOf f.2 < SizeOf.sizeOf t:=by
 cases t with
 | mk k fs=>
  have h1:=List.sizeOf_lt_of_mem (show f∈fs from h)
  obtain⟨n,t⟩:=f
  simp only[Prod.mk.sizeOf_spec,Ty.mk.sizeOf_spec] at h1 ⊢
  have:SizeOf.sizeOf t < SizeOf.sizeOf ((n,t):cr):=by simp only[Prod.mk.sizeOf_spec];omega
  simp only[Prod.mk.sizeOf_spec] at this
  omega
theorem oG(f:cr)(fs l:List cr):mr (f:: fs) l=(match NQ f l with | some x=>[x] | none=>[])++mr fs l:=by
 simp only[mr]
 rfl
theorem FJ(f:cr)(l:List cr):NQ f l=match cm (fun z=>z.1== f.1) l with
  | some z=>(match yo f.2 z.2 with | some u=>some (f.1,u) | none=>none)
  | none=>none:=by
 obtain⟨n,t⟩:=f
 simp only[NQ]
 rfl
theorem yd(l:List cr):(fs:List cr)→(mr fs l).length≤fs.length
 | []=>by simp[mr]
 | f:: fs=>by
  have:=yd l fs
  rw[oG,List.length_append,List.length_cons]
  cases NQ f l <;> simp <;> omega
theorem uw(n:aW)(t:Ty):aL T false 87 [(0,.str n),(1,t.av)]=some (bj (n,t)):=by
 cases t;rfl
theorem N9(f:cr):aB T 23 1 [(0,bj f)]=some (aH [f]):=by
 obtain⟨n,t⟩:=f
 cases t;rfl
theorem Gf(l:List cr):cq (aH l)=M.pure (aH l):=rfl
theorem G3(b:Ty)(hb:eb b)(l:List cr)(hl:l.length≤1000000000)(k:Int)(x4 x5:AV)(hk:∀ f∈l,∀ t:Ty,eb t→ai pg 227 [f.2.av,t.av]=M.pure (match yo f.2 t with | some u=>.tup [u.av,.bool true] | none=>.tup [ty0.av,.bool false])):∀(n i:Nat)(acc:List cr),l.length - i=n→i≤l.length→acc.length≤i→
  af (L227_0 (ai pg) af) [.ip (ab b.av),aH l,.int .i64 l.length,.int .i64 i,x4,x5,.int .i64 k,aH acc]=M.pure (.tup [(Ty.mk k (acc++mr (l.drop i) b.fields)).av,.bool true]):=by
 intro n
 induction n with
 | zero=>
  intro i acc hn hi ha
  have h1:¬ ((i:Int) < (l.length:Int)):=by omega
  have h2:l.drop i=[]:=List.drop_eq_nil_of_le (by omega)
  have h3:ar 2 [] (.agg [.int .i64 k,aH acc])=M.pure (.agg [.int .i64 k,aH acc]):=aR rfl
  rw[FL227_0,h2]
  simp[L227_0,h1,mr,h3]
  rfl
 | succ n ih=>
  intro i acc hn hi ha
  have hlt:i < l.length:=by omega
  have h1:(i:Int) < (l.length:Int):=by omega
  have h2:l.drop i=l[i]:: l.drop (i + 1):=List.drop_eq_getElem_cons hlt
  have hw:IntKind.i64.wrap ((i:Int) + 1)=(i:Int) + 1:=bG (by omega)
  have hix:=pz (l:=l) (n:=(i:Int)) (by omega) h1
  rw[Int.toNat_natCast,getElem!_pos l i hlt] at hix
  have hk':=hk l[i] (List.getElem_mem hlt)
  have hlk:=t145 b.fields hb.len l[i].1
  have ih2:∀ acc:List cr,acc.length≤i + 1→af (L227_0 (ai pg) af) [.ip (ab b.av),aH l,.int .i64 l.length,.int .i64 ((i:Int) + 1),x4,x5,.int .i64 k,aH acc]=M.pure (.tup [(Ty.mk k (acc++mr (l.drop (i + 1)) b.fields)).av,.bool true]):=fun acc ha=>ih (i + 1) acc (by omega) (by omega) ha
  simp only[dI] at ih2
  rw[FL227_0,h2,oG,FJ]
  generalize l[i]=f at hix hk' hlk ⊢
  cases hz:cm (fun z:cr=>z.1== f.1) b.fields with
  | none=>
   rw[hz] at hlk
   have ih':=ih2 acc (by omega)
   simp[L227_0,h1,hix,hlk,hw,ih']
  | some z=>
   rw[hz] at hlk
   have hc:=hk' z.2 (hb.kid (ic hz).1)
   cases hu:yo f.2 z.2 with
   | none=>
    rw[hu] at hc
    have ih':=ih2 acc (by omega)
    simp[L227_0,h1,hix,hlk,hw,hc,hu,ih']
   | some u=>
    rw[hu] at hc
    have ih':=ih2 (acc++[(f.1,u)]) (by simp;omega)
    have hap:=Iw (a:=acc) (b:=[(f.1,u)]) (by simp;omega)
    simp[L227_0,h1,hix,hlk,hw,hc,hu,uw,N9,hap,Gf,ih']
theorem t227(a b:Ty)(ha:eb a)(hb:eb b):ai pg 227 [a.av,b.av]=M.pure (match yo a b with | some u=>.tup [u.av,.bool true] | none=>.tup [ty0.av,.bool false]):=by
 have hloop:=G3 b hb a.fields ha.len a.kind (.int .i64 0) (.sl []) (fun f hf t ht=>by
  have:=Aq hf
  exact t227 f.2 t (ha.kid hf) ht) a.fields.length 0 [] rfl (Nat.zero_le _) (Nat.zero_le _)
 rw[C227]
 have e1:yo a b=if a.kind=b.kind then some (.mk a.kind (mr a.fields b.fields)) else none:=by
  cases a;cases b;simp only[yo,Ty.kind,Ty.fields];rfl
 have b1:aL T false 72 []=some ty0.av:=rfl
 have b2:∀ k:Int,aL T true 72 [(0,.int .i64 k)]=some (.agg [.int .i64 k,.hn]):=fun k=>rfl
 have b3:∀ k:Int,ar 2 [1] (.agg [.int .i64 k,.hn])=M.pure (.agg [.int .i64 k,.hn]):=fun k=>rfl
 rw[e1]
 simp only[List.drop_zero,List.nil_append] at hloop
 by_cases hk:a.kind=b.kind
 ·have hk':(a.kind != b.kind)=false:=by simp[hk]
  rw[if_pos hk]
  have hloop':af (L227_0 (ai pg) af) [.ip (ab b.av),aH a.fields,.int .i64 a.fields.length,.int .i64 0,.int .i64 0,.sl [],.int .i64 a.kind,.sl []]=M.pure (.tup [(Ty.mk a.kind (mr a.fields b.fields)).av,.bool true]):=hloop
  simp only[dI] at hloop'
  simp[S227,hk',b2,b3,hloop']
  exact bP fun g=>by simp[cl,ee]
 ·have hk':(a.kind != b.kind)=true:=by simp[hk]
  rw[if_neg hk]
  simp[S227,hk',b1]
  exact bP fun g=>by simp[cl,ee]
termination_by SizeOf.sizeOf a
theorem bN{m:M AV}{v r:AV}{h':Hp}(e:m []= .ok v h')(f:iE 6 h' v=r):aF m=M.pure r:=by
 funext hp
 unfold aF
 rw[e]
 show R.ok (iE 6 h' v) hp=R.ok r hp
 rw[f]
theorem t226(t:Ty)(k:Int):ai pg 226 [t.av,.ip [.int .i64 k]]=M.pure (.bool (t.kind != k)):=by
 rw[C226]
 simp[S226,cl,ee]
theorem t225(k:Int)(l:List Ty)(hl:l.length≤1000000):ai pg 225 [.int .i64 k,.ip [gn l]]=M.pure (.bool (ka k l)):=by
 have h:=t142 (.fn (.func 226) [] [.ip [.int .i64 k]]) (fun t=>t.kind != k) l (by omega) (fun g=>by simp[cl,ee]) (fun t _=>t226 t k)
 rw[C225]
 have e:(!l.any fun t=>t.kind != k)=ka k l:=by
  unfold ka
  rw[List.not_any_eq_all_not]
  congr 1
  funext t
  simp[bne]
 simp[S225,cl,ee,h,e]
theorem B1(f:AV→M AV):ae (newH [.int .i64 0,.hn]) f []=f (.hp 0 0) [[.int .i64 0,.hn]]:=rfl
theorem B2(f:AV→M AV)(k:Int)(fs:List AV)(c1 c2:AV):ae (bK T 72 (.hp 0 0) (.agg [.int .i64 k,.sl fs])) f [[c1,c2]]=f (.tup []) [[.int .i64 k,.sl fs]]:=rfl
theorem yg(f:AV→M AV)(k:Int)(c1 c2:AV):ae (bK T 72 (.hp 0 0) (.agg [.int .i64 k,.hn])) f [[c1,c2]]=f (.tup []) [[.int .i64 k,.hn]]:=rfl
theorem B3(f:AV→M AV)(k:Int)(c1 c2:AV):ae (bK T 3 (.hp 0 0) (.int .i64 k)) f [[c1,c2]]=f (.tup []) [[.int .i64 k,c2]]:=rfl
theorem B4(f:AV→M AV)(c1 c2:AV):ae (bA T 72 (.hp 0 0)) f [[c1,c2]]=f (.agg [c1,c2]) [[c1,c2]]:=rfl
theorem fa0:aa T 72 (.hp 0 0) 0=some (.hp 0 0):=rfl
theorem fa1:aa T 72 (.hp 0 0) 1=some (.hp 0 1):=rfl
theorem yj:aL T true 72 []=some (.agg [.int .i64 0,.hn]):=rfl
theorem Aa:aL T false 72 []=some ty0.av:=rfl
theorem yk(k:Int):ar 2 [] (.agg [.int .i64 k,.hn])=M.pure (.agg [.int .i64 k,.hn]):=aR rfl
theorem ym(k:Int)(fs:List AV):ar 2 [] (.agg [.int .i64 k,.sl fs])=M.pure (.agg [.int .i64 k,.sl fs]):=aR rfl
theorem PU(k:Int)(l n:Nat):ar 2 [] (.agg [.int .i64 k,.hs l 0 n 3 true])=M.pure (.agg [.int .i64 k,.hs l 0 n 3 true]):=aR rfl
theorem H7(n:Int):cq (.int .i64 n)=M.pure (.int .i64 n):=rfl
theorem FH:ty0.av= .agg [.int .i64 0,.sl []]:=rfl
theorem LI(f:AV→M AV)(t:Ty)(c1 c2:AV):ae (bK T 72 (.hp 0 0) t.av) f [[c1,c2]]=f (.tup []) [[.int .i64 t.kind,aH t.fields]]:=by
 rw[← eA];rfl
theorem cnt(t:Ty):ar 2 [] (.agg [.int .i64 t.kind,aH t.fields])=M.pure (.agg [.int .i64 t.kind,aH t.fields]):=aR rfl
def FX(h:Hp)(acc:List cr):Prop:=(acc=[]∧h[0]? = some [.int .i64 2,.hn])∨(acc≠[]∧∃ q,q≠0∧h[0]? = some [.int .i64 2,.hs q 0 acc.length 3 true]∧h[q]? = some (rowOf bj acc))
theorem Iu:(l:List cr)→(rowOf bj l).all aO=true
 | []=>rfl
 | f:: l=>by
  rw[iM,List.all_append,Iu l,Bool.and_true,dm]
  rfl
theorem CL{h:Hp}{acc:List cr}(A:FX h acc)(hl:acc.length≤1000000)(f:cr):∃ sv rv h1 h2,bA T 23 (.hp 0 1) h= .ok sv h∧appH T 23 false sv (aH [f]) h= .ok rv h1∧bK T 23 (.hp 0 1) rv h1= .ok (.tup []) h2∧FX h2 (acc++[f]):=by
 have hfl:aH [f]= .sl [bj f]:=by rw[kw];rfl
 have h0l:0 < h.length:=by
  rcases A with ⟨_,h0⟩ | ⟨_,q,_,h0,_⟩
  ·exact (List.getElem?_eq_some_iff.1 h0).1
  ·exact (List.getElem?_eq_some_iff.1 h0).1
 rcases A with ⟨rfl,h0⟩ | ⟨hne,q,hq0,h0,hq⟩
 ·have e1:bA T 23 (.hp 0 1) h= .ok .hn h:=jJ rfl rfl h0 rfl
  have e2:=H5 (T:=T) (t:=23) (e:=87) rfl rfl rfl (x:=bj f) (iG f) (by decide) (by decide) (by decide) h
  rw[← hfl] at e2
  have h0':(h++[ab (bj f)])[0]? = some [.int .i64 2,.hn]:=by rw[List.getElem?_append_left h0l];exact h0
  have e3:=nz (T:=T) (t:=23) rfl (k:=1) (v:=.hs h.length 0 1 3 true) h0' rfl (by decide) (by decide)
  refine⟨_,_,_,_,e1,e2,e3,.inr ⟨by simp,h.length,by omega,?_,?_⟩⟩
  ·rw[List.getElem?_set_self (by simp)];rfl
  ·rw[List.getElem?_set_ne (by omega),List.getElem?_append_right (Nat.le_refl _),Nat.sub_self]
   simp[rowOf]
 ·have e1:bA T 23 (.hp 0 1) h= .ok (.hs q 0 acc.length 3 true) h:=jJ rfl rfl h0 rfl
  have hln:=fu (f:=bj) Ie acc
  have hpos:0 < acc.length:=List.length_pos_iff.2 hne
  have e2:=DC (T:=T) (t:=23) (e:=87) rfl rfl rfl (x:=bj f) (iG f) (by decide) (by decide) hq (Iu acc) hln hpos (show (acc.length + 1) * 48≤_ by omega)
  rw[← hfl] at e2
  have hql:q < h.length:=(List.getElem?_eq_some_iff.1 hq).1
  have h0':((h.set q [])++[rowOf bj acc++ab (bj f)])[0]? = some [.int .i64 2,.hs q 0 acc.length 3 true]:=by
   rw[List.getElem?_append_left (by simpa using h0l),List.getElem?_set_ne (by omega)];exact h0
  have e3:=nz (T:=T) (t:=23) rfl (k:=1) (v:=.hs h.length 0 (acc.length + 1) 3 true) h0' rfl (show 1 + 1≤2 by omega) (by decide)
  refine⟨_,_,_,_,e1,e2,e3,.inr ⟨by simp,h.length,by omega,?_,?_⟩⟩
  ·rw[List.getElem?_set_self (by simp),List.length_append];rfl
  ·rw[List.getElem?_set_ne (by omega),List.getElem?_append_right (by simp),List.length_set,Nat.sub_self]
   simp[rowOf]
theorem CK{h:Hp}{acc:List cr}(A:FX h acc):∃ v,bA T 72 (.hp 0 0) h= .ok v h∧ar 2 [] v=M.pure v∧(∃ c1 c2,v= .agg [c1,c2])∧iE 6 h (.tup [v,.int .i64 0])= .tup [(Ty.mk 2 acc).av,.int .i64 0]:=by
 have e:(Ty.mk 2 acc).av= .agg [.int .i64 2,aH acc]:=rfl
 rcases A with ⟨rfl,h0⟩ | ⟨hne,q,hq0,h0,hq⟩
 ·exact⟨.agg [.int .i64 2,.hn],zl (T:=T) (t:=72) rfl rfl h0 (show 0 + 2≤2 by omega),yk 2,⟨_,_,rfl⟩,rfl⟩
 ·refine⟨.agg [.int .i64 2,.hs q 0 acc.length 3 true],zl (T:=T) (t:=72) rfl rfl h0 (show 0 + 2≤2 by omega),PU 2 q acc.length,⟨_,_,rfl⟩,?_⟩
  have hfr:=nS (f:=bj) Ie (fun x=>by rw[dm,gu]) (fun x g=>DT g x) (by decide) hq 5
  rw[e,kw,← hfr]
  rfl
theorem GY(e:Exp)(l:List Ty)(x1 x2:AV)(hlen:l.length≤1000000)(hn:e.names.length=l.length):∀(n i:Nat)(h:Hp),l.length - i=n→i≤l.length→FX h ((e.names.zip l).take i)→
  ∃ v h',af (L150_0 (ai pg) af (K150_0 (ai pg) af)) [.ip (ab e.av),.hp 0 0,.bool true,gn l,.int .i64 l.length,.int .i64 i,x1,x2] h= .ok v h'∧iE 6 h' v= .tup [(Ty.mk 2 (e.names.zip l)).av,.int .i64 0]:=by
 intro n
 induction n with
 | zero=>
  intro i h hi hle A
  have h1:¬ ((i:Int) < (l.length:Int)):=by omega
  have h2:(e.names.zip l).take i=e.names.zip l:=List.take_of_length_le (by rw[List.length_zip];omega)
  rw[h2] at A
  obtain⟨v,e1,e2,⟨c1,c2,rfl⟩,e3⟩:=CK A
  refine⟨_,h,?_,e3⟩
  rw[FL150_0]
  simp only[L150_0,K150_0,bu,bD,cN,aT,h1,decide_false,bz,Bool.false_eq_true,if_false,jT,Bool.not_true]
  rw[aV e1]
  simp only[e2,bi,pW,bu,bD]
  rfl
 | succ n ih=>
  intro i h hi hle A
  have hlt:i < l.length:=by omega
  have hlt2:i < e.names.length:=by omega
  have h1:(i:Int) < (l.length:Int):=by omega
  have hw:IntKind.i64.wrap ((i:Int) + 1)=(i:Int) + 1:=bG (by omega)
  have hix:=oJ (l:=l) (n:=(i:Int)) (by omega) h1
  rw[Int.toNat_natCast,getElem!_pos l i hlt] at hix
  have hix2:=vA (l:=e.names) (n:=(i:Int)) (by omega) (by omega)
  rw[Int.toNat_natCast,getElem!_pos e.names i hlt2] at hix2
  have ht:(e.names.zip l).take (i + 1)=(e.names.zip l).take i++[(e.names[i],l[i])]:=by
   rw[List.take_succ_eq_append_getElem (by rw[List.length_zip];omega),List.getElem_zip]
  obtain⟨sv,rv,h2,h3,e1,e2,e3,A3⟩:=CL A (by rw[List.length_take,List.length_zip];omega) (e.names[i],l[i])
  rw[← ht] at A3
  obtain⟨v,h',e4,e5⟩:=ih (i + 1) h3 (by omega) (by omega) A3
  refine⟨v,h',?_,e5⟩
  have e4':af (L150_0 (ai pg) af (K150_0 (ai pg) af)) [.ip (ab e.av),.hp 0 0,.bool true,gn l,.int .i64 l.length,.int .i64 ((i:Int) + 1),x1,x2] h3= .ok v h':=e4
  rw[← e4']
  generalize hcode:af (L150_0 (ai pg) af (K150_0 (ai pg) af)) [.ip (ab e.av),.hp 0 0,.bool true,gn l,.int .i64 l.length,.int .i64 i,x1,x2] h=code
  rw[FL150_0] at hcode
  simp -implicitDefEqProofs only[L150_0,bu,bD,cN,aT,h1,decide_true,bz,if_true,hix,dI,LD72,List.length_cons,List.length_nil,Nat.zero_add,Nat.reduceAdd,Nat.le_refl,List.take_succ_cons,List.take_zero,eA,Av.fS,bi,fa1] at hcode
  rw[aV e1] at hcode
  simp -implicitDefEqProofs only[cw,FA74_4,aT,List.drop_succ_cons,List.drop_zero,LD22,hix2,jx,LD9,LD72,List.length_cons,List.length_nil,Nat.zero_add,Nat.reduceAdd,Nat.le_refl,if_true,List.take_succ_cons,List.take_zero,eA,uw,N9] at hcode
  rw[aV e2] at hcode
  rw[aV e3] at hcode
  simp -implicitDefEqProofs only[fA,aT,hw] at hcode
  rw[← hcode,cw]
theorem e9(l:List Ty):ab (gn l)=[gn l]:=rfl
theorem t150 (e:Exp) (l:List Ty) (hl:∀ t∈l,eb t) (hlen:l.length≤1000000) (h11:e.op=11→l.length=3) (h14:e.op=14→l.length=1) (h13:e.op=13→e.names.length=l.length):ai pg 150 [e.av,gn l]=M.pure (match cD e l with | some t=>.tup [t.av,.int .i64 0] | none=>.tup [ty0.av,.int .i64 13]):=by
 have h0:=t225 0 l hlen
 have h1:=t225 1 l hlen
 rw[C150,yJ,DW]
 have fin:∀ k:Int,iE 6 [[.int .i64 k,.hn]] (.tup [.agg [.int .i64 k,.hn],.int .i64 0])= .tup [(Ty.mk k []).av,.int .i64 0]:=fun k=>rfl
 have fin0:∀ h:Hp,iE 6 h (.tup [ty0.av,.int .i64 13])= .tup [ty0.av,.int .i64 13]:=fun h=>rfl
 have fins:∀(h:Hp)(t:Ty),iE 6 h (.tup [.agg [.int .i64 t.kind,aH t.fields],.int .i64 0])= .tup [t.av,.int .i64 0]:=fun h t=>by
  have hc:Ap.Clean (AV.tup [t.av,.int .i64 0]):=fun g=>by simp[cl,ee]
  rw[eA]
  exact hc.frz 6 h
 by_cases o3:e.op=3∨e.op=4∨e.op=5∨e.op=16
 ·have ep:cD e l=if ka 0 l=true then some (.mk 0 []) else none:=by unfold cD;rw[if_pos o3]
  rw[ep]
  cases hb:ka 0 l with
  | true=>
   rw[hb] at h0
   refine bN (v:=.tup [.agg [.int .i64 0,.hn],.int .i64 0]) (h':=[[.int .i64 0,.hn]]) ?_ (fin 0)
   rcases o3 with hop | hop | hop | hop <;> simp[S150,K150_0,K150_1,K150_2,yj,Aa,B1,B2,yg,B3,B4,fa0,hop,yk,ym,bH,e9,h0,h1] <;> rfl
  | false=>
   rw[hb] at h0
   refine bN (v:=.tup [ty0.av,.int .i64 13]) (h':=[[.int .i64 0,.hn]]) ?_ (fin0 _)
   rcases o3 with hop | hop | hop | hop <;> simp[S150,K150_0,K150_1,K150_2,yj,Aa,B1,B2,yg,B3,B4,fa0,hop,yk,ym,bH,e9,h0,h1] <;> rfl
 ·by_cases hop:e.op=1
  ·have ep:cD e l=some (.mk 1 []):=by unfold cD;rw[if_neg o3,if_pos hop]
   rw[ep]
   refine bN (v:=.tup [.agg [.int .i64 1,.hn],.int .i64 0]) (h':=[[.int .i64 1,.hn]]) ?_ (fin 1)
   simp[S150,K150_0,K150_1,K150_2,yj,Aa,B1,B2,yg,B3,B4,fa0,hop,yk,ym,bH,e9,h0,h1,H7]
   rfl
  ·by_cases hop6:e.op=6
   ·have hop:=hop6
    have ep:cD e l=if ka 0 l=true then some (.mk 1 []) else none:=by unfold cD;rw[if_neg o3,if_neg (by omega),if_pos hop6]
    rw[ep]
    cases hb:ka 0 l with
    | true=>
     rw[hb] at h0
     refine bN (v:=.tup [.agg [.int .i64 1,.hn],.int .i64 0]) (h':=[[.int .i64 1,.hn]]) ?_ (fin 1)
     simp[S150,K150_0,K150_1,K150_2,yj,Aa,B1,B2,yg,B3,B4,fa0,hop,yk,ym,bH,e9,h0,h1,H7]
     rfl
    | false=>
     rw[hb] at h0
     refine bN (v:=.tup [ty0.av,.int .i64 13]) (h':=[[.int .i64 1,.hn]]) ?_ (fin0 _)
     simp[S150,K150_0,K150_1,K150_2,yj,Aa,B1,B2,yg,B3,B4,fa0,hop,yk,ym,bH,e9,h0,h1,H7]
     rfl
   ·by_cases hop7:e.op=7
    ·have hop:=hop7
     have ep:cD e l=if (ka 0 l||ka 1 l)=true then some (.mk 1 []) else none:=by unfold cD;rw[if_neg o3,if_neg (by omega),if_neg hop6,if_pos hop7]
     rw[ep]
     cases hb:ka 0 l <;> cases hb1:ka 1 l <;> rw[hb] at h0 <;> rw[hb1] at h1
     ·refine bN (v:=.tup [ty0.av,.int .i64 13]) (h':=[[.int .i64 1,.hn]]) ?_ (fin0 _)
      simp[S150,K150_0,K150_1,K150_2,yj,Aa,B1,B2,yg,B3,B4,fa0,hop,yk,ym,bH,e9,h0,h1,H7]
      rfl
     all_goals
      refine bN (v:=.tup [.agg [.int .i64 1,.hn],.int .i64 0]) (h':=[[.int .i64 1,.hn]]) ?_ (fin 1)
      simp[S150,K150_0,K150_1,K150_2,yj,Aa,B1,B2,yg,B3,B4,fa0,hop,yk,ym,bH,e9,h0,h1,H7]
      rfl
    ·by_cases o8:e.op=8∨e.op=9∨e.op=10
     ·have ep:cD e l=if ka 1 l=true then some (.mk 1 []) else none:=by unfold cD;rw[if_neg o3,if_neg (by omega),if_neg hop6,if_neg hop7,if_pos o8]
      rw[ep]
      cases hb:ka 1 l with
      | true=>
       rw[hb] at h1
       refine bN (v:=.tup [.agg [.int .i64 1,.hn],.int .i64 0]) (h':=[[.int .i64 1,.hn]]) ?_ (fin 1)
       rcases o8 with hop | hop | hop <;> simp[S150,K150_0,K150_1,K150_2,yj,Aa,B1,B2,yg,B3,B4,fa0,hop,yk,ym,bH,e9,h0,h1,H7] <;> rfl
      | false=>
       rw[hb] at h1
       refine bN (v:=.tup [ty0.av,.int .i64 13]) (h':=[[.int .i64 1,.hn]]) ?_ (fin0 _)
       rcases o8 with hop | hop | hop <;> simp[S150,K150_0,K150_1,K150_2,yj,Aa,B1,B2,yg,B3,B4,fa0,hop,yk,ym,bH,e9,h0,h1,H7] <;> rfl
     ·by_cases hop11:e.op=11
      ·have hop:=hop11
       have ep:cD e l=(match yo l[1]! l[2]! with | some t=>if l[0]!.kind=1 then some t else none | none=>none):=by unfold cD;rw[if_neg o3,if_neg (by omega),if_neg hop6,if_neg hop7,if_neg o8,if_pos hop11];rfl
       rw[ep]
       obtain⟨a,b,c,rfl⟩:∃ a b c,l=[a,b,c]:=by
        have:=h11 hop
        match l,this with
        | [a,b,c],_=>exact⟨a,b,c,rfl⟩
       have i0:ak T 148 (gn [a,b,c]) (.int .i64 0)=some (.ip (ab a.av)):=oJ (l:=[a,b,c]) (n:=0) (by omega) (by simp)
       have i1:ak T 148 (gn [a,b,c]) (.int .i64 1)=some (.ip (ab b.av)):=oJ (l:=[a,b,c]) (n:=1) (by omega) (by simp)
       have i2:ak T 148 (gn [a,b,c]) (.int .i64 2)=some (.ip (ab c.av)):=oJ (l:=[a,b,c]) (n:=2) (by omega) (by simp)
       have hu:=t227 b c (hl b (by simp)) (hl c (by simp))
       show aF _=M.pure (match (match yo b c with | some t=>if a.kind=1 then some t else none | none=>none) with | some t=>.tup [t.av,.int .i64 0] | none=>.tup [ty0.av,.int .i64 13])
       cases hub:yo b c with
       | none=>
        rw[hub] at hu
        refine bN (v:=.tup [ty0.av,.int .i64 13]) (h':=[[.int .i64 0,.sl []]]) ?_ (fin0 _)
        simp[S150,K150_0,K150_1,K150_2,yj,Aa,B1,B2,yg,B3,B4,fa0,hop,yk,ym,bH,e9,h0,h1,i0,i1,i2,hu,hub,LI,FH]
        rfl
       | some u=>
        rw[hub] at hu
        by_cases hk:a.kind=1
        ·dsimp only
         rw[if_pos hk]
         have hk':(a.kind== 1)=true:=beq_iff_eq.2 hk
         refine bN (v:=.tup [.agg [.int .i64 u.kind,aH u.fields],.int .i64 0]) (h':=[[.int .i64 u.kind,aH u.fields]]) ?_ (fins _ u)
         simp[S150,K150_0,K150_1,K150_2,yj,Aa,B1,B2,yg,B3,B4,fa0,hop,yk,ym,bH,e9,h0,h1,i0,i1,i2,hu,hub,LI,hk',cnt]
         rfl
        ·dsimp only
         rw[if_neg hk]
         have hk':(a.kind== 1)=false:=beq_eq_false_iff_ne.2 hk
         refine bN (v:=.tup [ty0.av,.int .i64 13]) (h':=[[.int .i64 u.kind,aH u.fields]]) ?_ (fin0 _)
         simp[S150,K150_0,K150_1,K150_2,yj,Aa,B1,B2,yg,B3,B4,fa0,hop,yk,ym,bH,e9,h0,h1,i0,i1,i2,hu,hub,LI,hk']
         rfl
      ·by_cases hop13:e.op=13
       ·have hop:=hop13
        have ep:cD e l=some (.mk 2 (e.names.zip l)):=by unfold cD;rw[if_neg o3,if_neg (by omega),if_neg hop6,if_neg hop7,if_neg o8,if_neg hop11,if_pos hop13]
        rw[ep]
        obtain⟨v,h',e1,e2⟩:=GY e l (.int .i64 0) (.sl []) hlen (h13 hop) l.length 0 [[.int .i64 2,.hn]] rfl (Nat.zero_le _) (.inl ⟨rfl,rfl⟩)
        refine bN (v:=v) (h':=h') ?_ e2
        have e1':af (L150_0 (ai pg) af (K150_0 (ai pg) af)) [.ip (ab e.av),.hp 0 0,.bool true,gn l,.int .i64 l.length,.int .i64 0,.int .i64 0,.sl []] [[.int .i64 2,.hn]]= .ok v h':=e1
        rw[cw,hop] at e1'
        simp[S150,K150_1,K150_2,yj,B1,yg,B3,fa0,hop,e9,H7]
        exact e1'
       ·by_cases hop14:e.op=14
        ·have hop:=hop14
         have ep:cD e l=(match cm (fun z=>z.1== e.s) l[0]!.fields with | some z=>some z.2 | none=>none):=by unfold cD;rw[if_neg o3,if_neg (by omega),if_neg hop6,if_neg hop7,if_neg o8,if_neg hop11,if_neg hop13,if_pos hop14];rfl
         rw[ep]
         obtain⟨a,rfl⟩:∃ a,l=[a]:=by
          have:=h14 hop
          match l,this with
          | [a],_=>exact⟨a,rfl⟩
         have i0:ak T 148 (gn [a]) (.int .i64 0)=some (.ip (ab a.av)):=oJ (l:=[a]) (n:=0) (by omega) (by simp)
         have hk:=t145 a.fields (hl a (by simp)).len e.s
         show aF _=M.pure (match (match cm (fun z=>z.1== e.s) a.fields with | some z=>some z.2 | none=>none) with | some t=>.tup [t.av,.int .i64 0] | none=>.tup [ty0.av,.int .i64 13])
         cases hz:cm (fun z:cr=>z.1== e.s) a.fields with
         | none=>
          rw[hz] at hk
          refine bN (v:=.tup [ty0.av,.int .i64 13]) (h':=[[.int .i64 0,.sl []]]) ?_ (fin0 _)
          simp[S150,K150_0,K150_1,K150_2,yj,Aa,B1,B2,yg,B3,B4,fa0,hop,yk,ym,bH,e9,h0,h1,i0,hk,LI,FH]
          rfl
         | some z=>
          rw[hz] at hk
          refine bN (v:=.tup [.agg [.int .i64 z.2.kind,aH z.2.fields],.int .i64 0]) (h':=[[.int .i64 z.2.kind,aH z.2.fields]]) ?_ (fins _ z.2)
          simp[S150,K150_0,K150_1,K150_2,yj,Aa,B1,B2,yg,B3,B4,fa0,hop,yk,ym,bH,e9,h0,h1,i0,hk,LI,cnt]
          rfl
        ·have ep:cD e l=some (.mk 0 []):=by unfold cD;rw[if_neg o3,if_neg (by omega),if_neg hop6,if_neg hop7,if_neg o8,if_neg hop11,if_neg hop13,if_neg hop14]
         rw[ep]
         refine bN (v:=.tup [.agg [.int .i64 0,.hn],.int .i64 0]) (h':=[[.int .i64 0,.hn]]) ?_ (fin 0)
         have n3:(e.op== 3)=false:=beq_eq_false_iff_ne.2 (by omega)
         have n4:(e.op== 4)=false:=beq_eq_false_iff_ne.2 (by omega)
         have n5:(e.op== 5)=false:=beq_eq_false_iff_ne.2 (by omega)
         have n16:(e.op== 16)=false:=beq_eq_false_iff_ne.2 (by omega)
         have n1:(e.op== 1)=false:=beq_eq_false_iff_ne.2 (by omega)
         have n6:(e.op== 6)=false:=beq_eq_false_iff_ne.2 (by omega)
         have n7:(e.op== 7)=false:=beq_eq_false_iff_ne.2 (by omega)
         have n8:(e.op== 8)=false:=beq_eq_false_iff_ne.2 (by omega)
         have n9:(e.op== 9)=false:=beq_eq_false_iff_ne.2 (by omega)
         have n10:(e.op== 10)=false:=beq_eq_false_iff_ne.2 (by omega)
         have n11:(e.op== 11)=false:=beq_eq_false_iff_ne.2 (by omega)
         have n13:(e.op== 13)=false:=beq_eq_false_iff_ne.2 (by omega)
         have n14:(e.op== 14)=false:=beq_eq_false_iff_ne.2 (by omega)
         simp[S150,K150_0,K150_1,K150_2,yj,B1,yg,B4,yk,n3,n4,n5,n16,n1,n6,n7,n8,n9,n10,n11,n13,n14]
         rfl
theorem Fe(f:AV)(F:Fun→Bool)(l:List Fun)(hb:l.length≤4611686018427387904)(hf:∀ x∈l,bH (ai pg) f [Fun.av x]=M.pure (.bool (F x))):∀(n:Nat)(i:Int),l.length - i.toNat=n→0≤i→i≤l.length→
  af (L203_0 (ai pg) af) [eQ l,f,.int .i64 l.length,.int .i64 i]=M.pure (.int .i64 (cB F (l.drop i.toNat) i)):=by
 intro n
 induction n with
 | zero=>
  intro i hn hi hl
  rw[FL203_0]
  simp only[L203_0]
  have h1:¬ (i < (l.length:Int)):=by omega
  have h2:l.drop i.toNat=[]:=List.drop_eq_nil_of_le (by omega)
  simp[h1,h2,cB]
 | succ n ih=>
  intro i hn hi hl
  have h1:i < (l.length:Int):=by omega
  have hlt:i.toNat < l.length:=by omega
  have h2:cB F (l.drop i.toNat) i=if F l[i.toNat]=true then i else cB F (l.drop (i.toNat + 1)) (i + 1):=by rw[List.drop_eq_getElem_cons hlt];rfl
  have h3:=hf l[i.toNat] (List.getElem_mem hlt)
  have h4:=ih (i + 1) (by omega) (by omega) (by omega)
  rw[show (i + 1).toNat=i.toNat + 1 by omega] at h4
  rw[FL203_0]
  simp only[L203_0]
  simp (disch:=omega) [h1,br,vB,h3,h2]
  cases F l[i.toNat]
  ·simpa using h4
  ·simp
theorem Pv(f:AV)(F:Fun→Bool)(l:List Fun)(hb:l.length≤4611686018427387904)(hc:∀ g,cl g f=f)(hf:∀ x∈l,bH (ai pg) f [Fun.av x]=M.pure (.bool (F x))):ai pg 203 [eQ l,f]=M.pure (.int .i64 (cB F l 0)):=by
 rw[C203]
 simp[S203,hc,Fe f F l hb hf l.length 0 rfl (by omega) (by omega)]
theorem Ff(s:aW)(l:List aW)(hb:l.length≤4611686018427387904):∀(n:Nat)(i:Int),l.length - i.toNat=n→0≤i→i≤l.length→
  af (L269_0 (ai pg) af) [strs l,.str s,.int .i64 l.length,.int .i64 i]=M.pure (.int .i64 (cB (fun x=>s== x) (l.drop i.toNat) i)):=by
 intro n
 induction n with
 | zero=>
  intro i hn hi hl
  rw[FL269_0]
  simp only[L269_0]
  have h1:¬ (i < (l.length:Int)):=by omega
  have h2:l.drop i.toNat=[]:=List.drop_eq_nil_of_le (by omega)
  simp[h1,h2,cB]
 | succ n ih=>
  intro i hn hi hl
  have h1:i < (l.length:Int):=by omega
  have hlt:i.toNat < l.length:=by omega
  have h2:cB (fun x=>s== x) (l.drop i.toNat) i=if (s== l[i.toNat])=true then i else cB (fun x=>s== x) (l.drop (i.toNat + 1)) (i + 1):=by rw[List.drop_eq_getElem_cons hlt];rfl
  have h4:=ih (i + 1) (by omega) (by omega) (by omega)
  rw[show (i + 1).toNat=i.toNat + 1 by omega] at h4
  rw[FL269_0,h2]
  simp only[L269_0]
  have hix:=vA (l:=l) (n:=i) hi h1
  rw[getElem!_pos l i.toNat hlt] at hix
  generalize l[i.toNat]=x at hix ⊢
  cases hx:s== x
  ·have hw:IntKind.i64.wrap (i + 1)=i + 1:=br (by omega) (by omega)
   simp only[bu,bD,cN,aT,h1,decide_true,bz,if_true,hix,jx,LD9,A0,hx,Bool.false_eq_true,if_false,fA,hw,h4]
  ·simp only[bu,bD,cN,aT,h1,decide_true,bz,if_true,hix,jx,LD9,A0,hx]
theorem Py(s:aW)(l:List aW)(hb:l.length≤4611686018427387904):ai pg 269 [strs l,.str s]=M.pure (.int .i64 (cB (fun x=>s== x) l 0)):=by
 have h:=Ff s l hb l.length 0 rfl (by omega) (by omega)
 rw[C269]
 have h':af (L269_0 (ai pg) af) [strs l,.str s,.int .i64 l.length,.int .i64 0]=M.pure (.int .i64 (cB (fun x=>s== x) l 0)):=h
 simp only[S269,ul,yL,CH,aT,h',kB]
theorem Pw(s:aW)(l:List aW)(hb:l.length≤4611686018427387904):ai pg 209 [strs l,.str s]=M.pure (.bool (l.contains s)):=by
 rw[C209]
 have e:l.any (fun x=>s== x)=l.contains s:=by rw[List.contains_eq_any_beq]
 simp only[S209,ul,yL,Py s l hb,bi,uf,aT,nV,e,lg]
def aZ(m:Ap.Mod)(mp:AV)(n:Int):List AV:=[.str m.name,strs m.uses,aH m.vars,cG m.init,eQ m.funcs,.bool m.moves,aH m.old,cG m.forward,cG m.back,mp,.int .i64 n]
def cd(fs:List Face):List AV:=fs.map fun f=>.tup [.str f.module,f.av]
def PH(h:Hp)(mp:AV)(fs:List Face):Prop:=(mp= .nilm∧fs=[])∨∃ l,mp= .mp l∧h[l]? = some [.tup (cd fs)]
structure JR (h:Hp) (q:Nat) (m:Ap.Mod) (mp:AV) (fs:List Face) (n:Int):Prop where
 row:h[q]? = some (aZ m mp n)
 map:PH h mp fs
 ne:mp≠.mp q
theorem JR.set{h:Hp}{q:Nat}{m:Ap.Mod}{mp:AV}{fs:List Face}{n:Int}(R:JR h q m mp fs n)(n':Int):JR (h.set q (aZ m mp n')) q m mp fs n':=by
 have hl:=(List.getElem?_eq_some_iff.1 R.row).1
 refine⟨List.getElem?_set_self hl,?_,R.ne⟩
 rcases R.map with h1 | ⟨l,h1,h2⟩
 ·exact .inl h1
 ·refine .inr ⟨l,h1,?_⟩
  rw[List.getElem?_set_ne (fun e=>R.ne (by rw[h1,e]))]
  exact h2
theorem JR.same{h:Hp}{q:Nat}{m:Ap.Mod}{mp:AV}{fs:List Face}{n:Int}(R:JR h q m mp fs n):h.set q (aZ m mp n)=h:=by
 obtain⟨hl,e⟩:=List.getElem?_eq_some_iff.1 R.row
 rw[← e]
 exact List.set_getElem_self hl
theorem JR.twice{h:Hp}{q:Nat}{m:Ap.Mod}{mp:AV}(a b:Int):(h.set q (aZ m mp a)).set q (aZ m mp b)=h.set q (aZ m mp b):=List.set_set ..
theorem JR.vars{h:Hp}{q:Nat}{m:Ap.Mod}{mp:AV}{fs:List Face}{n:Int}(R:JR h q m mp fs n):bA T 23 (.hp q 2) h= .ok (aH m.vars) h:=jJ rfl rfl R.row rfl
theorem JR.funcs{h:Hp}{q:Nat}{m:Ap.Mod}{mp:AV}{fs:List Face}{n:Int}(R:JR h q m mp fs n):bA T 25 (.hp q 4) h= .ok (eQ m.funcs) h:=jJ rfl rfl R.row rfl
theorem JR.uses{h:Hp}{q:Nat}{m:Ap.Mod}{mp:AV}{fs:List Face}{n:Int}(R:JR h q m mp fs n):bA T 22 (.hp q 1) h= .ok (strs m.uses) h:=jJ rfl rfl R.row rfl
theorem JR.mp{h:Hp}{q:Nat}{m:Ap.Mod}{mp:AV}{fs:List Face}{n:Int}(R:JR h q m mp fs n):bA T 118 (.hp q 9) h= .ok mp h:=jJ rfl rfl R.row rfl
theorem JR.eff{h:Hp}{q:Nat}{m:Ap.Mod}{mp:AV}{fs:List Face}{n:Int}(R:JR h q m mp fs n):bA T 3 (.hp q 10) h= .ok (.int .i64 n) h:=jJ rfl rfl R.row rfl
theorem JR.put{h:Hp}{q:Nat}{m:Ap.Mod}{mp:AV}{fs:List Face}{n:Int}(R:JR h q m mp fs n)(n':Int):bK T 3 (.hp q 10) (.int .i64 n') h= .ok (.tup []) (h.set q (aZ m mp n')):=
 nz (T:=T) (t:=3) rfl (v:=.int .i64 n') R.row rfl (show 10 + 1≤11 by omega) (by decide)
theorem PV(a b:aW):wg T 20 9 (.str a) (.str b)=some (a== b):=rfl
theorem qF(s:aW):(fs:List Face)→(i:Nat)→(fs.find? (fun f=>f.module== s)=none∧cV T 9 (.str s) (cd fs) i=some none)∨∃ f j k,fs.find? (fun f=>f.module== s)=some f∧cV T 9 (.str s) (cd fs) i=some (some (j,k,f.av))
 | [],i=>.inl ⟨rfl,rfl⟩
 | x:: fs,i=>by
  show (_∧cV T 9 (.str s) (.tup [.str x.module,x.av]:: cd fs) i=_)∨∃ f j k,_∧cV T 9 (.str s) (.tup [.str x.module,x.av]:: cd fs) i=_
  unfold cV
  rw[PV,List.find?_cons]
  have hc:(s== x.module)=(x.module== s):=Bool.eq_iff_iff.2 ⟨fun h=>beq_iff_eq.2 (beq_iff_eq.1 h).symm,fun h=>beq_iff_eq.2 (beq_iff_eq.1 h).symm⟩
  rw[hc]
  cases hx:x.module== s with
  | true=>exact .inr ⟨x,i,.str x.module,rfl,rfl⟩
  | false=>exact qF s fs (i + 1)
def gO:Face:=⟨[],[]⟩
theorem od{h:Hp}{mp:AV}{fs:List Face}(M:PH h mp fs)(s:aW):cL T 118 mp (.str s) true h= .ok (.tup [((fs.find? fun f=>f.module== s).getD gO).av,.bool (fs.find? fun f=>f.module== s).isSome]) h:=by
 have e:∀ es:List AV,jo T 118 es (.str s) true=(match cV T 9 (.str s) es 0 with
   | some (some (_,_,v))=>some (.tup [v,.bool true])
   | some none=>some (.tup [gO.av,.bool false])
   | none=>none):=fun es=>rfl
 rcases M with ⟨rfl,rfl⟩ | ⟨l,rfl,hl⟩
 ·unfold cL gq
  simp only
  rw[e]
  rfl
 ·unfold cL gq
  simp only[hl]
  rw[e]
  rcases qF s fs 0 with ⟨h1,h2⟩ | ⟨f,j,k,h1,h2⟩
  ·rw[h1,h2];rfl
  ·rw[h1,h2];rfl
theorem Pz(f:Fun)(e:Exp):ai pg 289 [f.av,.ip (ab e.av)]=M.pure (.bool (f.name== e.s)):=by
 rw[C289]
 simp[S289,cl,ee]
theorem PC(f:Sig)(e:Exp):ai pg 291 [f.av,.ip (ab e.av)]=M.pure (.bool (f.name== e.s)):=by
 rw[C291]
 simp[S291,cl,ee]
structure CxOk (m:Ap.Mod) (fs:List Face):Prop where
 vlen:m.vars.length≤1000000
 vars:∀ z∈m.vars,bO z.2=true
 flen:m.funcs.length≤1000000
 ulen:m.uses.length≤1000000
 plen:∀ f∈m.funcs,f.params.length≤1000000
 pars:∀ f∈m.funcs,∀ z∈f.params,bO z.2=true
 res:∀ f∈m.funcs,bO f.result=true
 slen:∀ f∈fs,f.funcs.length≤140737488355328
 splen:∀ f∈fs,∀ s∈f.funcs,s.params.length≤140737488355328
 spars:∀ f∈fs,∀ s∈f.funcs,∀ t∈s.params,bO t=true
 sres:∀ f∈fs,∀ s∈f.funcs,bO s.result=true
def ej(m:Ap.Mod)(fs:List Face):Tcx:=⟨m.vars,m.funcs,m.uses,fun s=>fs.find? fun f=>f.module== s⟩
def Cs:Sig:=⟨[],[],ty0,0⟩
theorem sG(l:List cr)(hl:l.length≤1000000)(x3 x4 x5 x6 x7:AV)(k:Int)(fs:List cr)(e:Int):∀(n i:Nat)(acc:List Ty),l.length - i=n→i≤l.length→acc.length≤i→
  af (L224_0 (ai pg) af) [aH l,.int .i64 l.length,.int .i64 i,x3,x4,x5,x6,x7,.str [],gn acc,.int .i64 k,aH fs,.int .i64 e]=M.pure (.tup [(Sig.mk [] (acc++(l.drop i).map (·.2)) (.mk k fs) e).av,.bool true]):=by
 intro n
 induction n with
 | zero=>
  intro i acc hn hi ha
  have h1:¬ ((i:Int) < (l.length:Int)):=by omega
  have h2:l.drop i=[]:=List.drop_eq_nil_of_le (by omega)
  have h3:ar 5 [] (.agg [.str [],gn acc,.int .i64 k,aH fs,.int .i64 e])=M.pure (.agg [.str [],gn acc,.int .i64 k,aH fs,.int .i64 e]):=aR rfl
  rw[FL224_0,h2]
  simp[L224_0,h1,h3]
  rfl
 | succ n ih=>
  intro i acc hn hi ha
  have hlt:i < l.length:=by omega
  have h1:(i:Int) < (l.length:Int):=by omega
  have h2:l.drop i=l[i]:: l.drop (i + 1):=List.drop_eq_getElem_cons hlt
  have hw:IntKind.i64.wrap ((i:Int) + 1)=(i:Int) + 1:=bG (by omega)
  have hix:=pz (l:=l) (n:=(i:Int)) (by omega) h1
  rw[Int.toNat_natCast,getElem!_pos l i hlt] at hix
  have ih2:∀ acc:List Ty,acc.length≤i + 1→af (L224_0 (ai pg) af) [aH l,.int .i64 l.length,.int .i64 ((i:Int) + 1),x3,x4,x5,x6,x7,.str [],gn acc,.int .i64 k,aH fs,.int .i64 e]=M.pure (.tup [(Sig.mk [] (acc++(l.drop (i + 1)).map (·.2)) (.mk k fs) e).av,.bool true]):=fun acc ha=>ih (i + 1) acc (by omega) (by omega) ha
  have ih':=ih2 (acc++[l[i].2]) (by simp;omega)
  have hap:=CF (a:=acc) (b:=[l[i].2]) (by simp;omega)
  rw[FL224_0,h2]
  generalize l[i]=f at hix hap ih' ⊢
  have hsl:aB T 148 1 [(0,f.2.av)]=some (gn [f.2]):=by cases f.2;rfl
  have hc1:∀ l:List Ty,cq (gn l)=M.pure (gn l):=fun l=>rfl
  simp[L224_0,h1,hix,hsl,hap,hc1,hw,ih']
theorem Px{h:Hp}{q:Nat}{m:Ap.Mod}{mp:AV}{fs:List Face}{n:Int}(R:JR h q m mp fs n)(K:CxOk m fs)(e:Exp):∃ r,ai pg 224 [.hp q 0,e.av] h= .ok r h∧(match cZ (ej m fs) e with
  | none=>r= .tup [Cs.av,.bool false]
  | some s=>∃ nm,r= .tup [(Sig.mk nm s.1 s.2.1 s.2.2).av,.bool true]):=by
 have bs0:aL T false 150 []=some Cs.av:=rfl
 have bs1:∀(k:Int)(x:List cr)(f:Int),aL T true 150 [(2,(Ty.mk k x).av),(3,.int .i64 f)]=some (.agg [.str [],.hn,.int .i64 k,aH x,.int .i64 f]):=fun k x f=>rfl
 have bs2:∀(k:Int)(x:List cr)(f:Int),ar 5 [1] (.agg [.str [],.hn,.int .i64 k,aH x,.int .i64 f])=M.pure (.agg [.str [],.hn,.int .i64 k,aH x,.int .i64 f]):=fun k x f=>rfl
 have nc:cP (.hp q 0)=some (.hp q 0):=rfl
 rw[C224]
 by_cases hm:e.m=[]
 ·have hm':(e.m== [])=true:=beq_iff_eq.2 hm
  have h1:=Pv (.fn (.func 289) [] [.ip (ab e.av)]) (fun f=>f.name== e.s) m.funcs (by have:=K.flen;omega) (fun g=>by simp[cl,ee]) (fun f _=>Pz f e)
  simp only[cw] at h1
  have l1:∀ f:AV→M AV,ae (bA T 25 (.hp q 4)) f h=f (eQ m.funcs) h:=fun f=>aV R.funcs f
  unfold cZ
  rw[if_pos hm]
  simp only[ej]
  rcases l9 (fun f:Fun=>f.name== e.s) m.funcs 0 with ⟨h2,h3⟩ | ⟨k,f,h2,h3,h4⟩
  ·rw[h3] at h1
   rw[h2]
   refine⟨_,?_,rfl⟩
   simp[S224,hm',l1,h1,bs0]
   rfl
  ·rw[Int.zero_add] at h4
   rw[h4] at h1
   rw[h2]
   have hk:=(List.getElem?_eq_some_iff.1 h3).1
   have hix:=vB (l:=m.funcs) (n:=(k:Int)) (by omega) (by omega)
   rw[Int.toNat_natCast,List.getElem!_eq_getElem?_getD,h3,Option.getD_some] at hix
   have hneg:¬ ((k:Int) < 0):=by omega
   have hmem:=List.mem_of_getElem? h3
   have hlp:=sG f.params (K.plen f hmem) (.str []) (.sl []) (.int .i64 0) (.sl []) (.int .i64 0) f.result.kind f.result.fields f.effects f.params.length 0 [] rfl (Nat.zero_le _) (Nat.zero_le _)
   have hlp':af (L224_0 (ai pg) af) [aH f.params,.int .i64 f.params.length,.int .i64 0,.str [],.sl [],.int .i64 0,.sl [],.int .i64 0,.str [],.sl [],.int .i64 f.result.kind,aH f.result.fields,.int .i64 f.effects]=M.pure (.tup [(Sig.mk [] (f.params.map (·.2)) f.result f.effects).av,.bool true]):=by
    rw[Ty.eta] at hlp
    exact hlp
   have bs1':aL T true 150 [(2,f.result.av),(3,.int .i64 f.effects)]=some (.agg [.str [],.hn,.int .i64 f.result.kind,aH f.result.fields,.int .i64 f.effects]):=by
    rw[← Ty.eta f.result];rfl
   refine⟨_,?_,[],rfl⟩
   simp[S224,hm',l1,h1,hneg,hix,bs1',bs2,hlp']
   rfl
 ·have hm':(e.m== [])=false:=beq_eq_false_iff_ne.2 hm
  have l1:∀ f:AV→M AV,ae (bA T 118 (.hp q 9)) f h=f mp h:=fun f=>aV R.mp f
  have l2:∀ f:AV→M AV,ae (cL T 118 mp (.str e.m) true) f h=f (.tup [((fs.find? fun f=>f.module== e.m).getD gO).av,.bool (fs.find? fun f=>f.module== e.m).isSome]) h:=fun f=>aV (od R.map e.m) f
  have l4:∀(g:AV→M (List AV))(f:List AV→M AV),ae (ae (bA T 22 (.hp q 1)) g) f h=ae (g (strs m.uses)) f h:=fun g f=>by simp only[ae,R.uses]
  have cmf:∀ f:Face,aC 2 f.av=M.pure f.av:=fun f=>by rw[bd (ol f),kd,td]
  have hct:=Pw e.m m.uses (by have:=K.ulen;omega)
  cases hf:fs.find? (fun f=>f.module== e.m) with
  | none=>
   rw[hf] at l2
   have hix:=t290 (.fn (.func 291) [] [.ip (ab e.av)]) (fun f=>f.name== e.s) gO.funcs (by simp[gO]) (fun g=>by simp[cl,ee]) (fun f hf=>by cases hf)
   have hix':ai pg 290 [sigs gO.funcs,.fn (.func 291) [] [.ip [.int .i64 e.op,.int .i64 e.n,.str e.s,.str e.m,strs e.names,cG e.args]]]=M.pure (.int .i64 (-1)):=by
    have:=hix
    simp only[cw] at this
    exact this
   have z1:aC 2 gO.av=M.pure (.agg [.str [],.sl []]):=rfl
   have ec:cZ (ej m fs) e=none:=by simp[cZ,ej,hm,hf]
   rw[ec]
   refine⟨_,?_,rfl⟩
   simp[S224,hm',l1,l2,z1,hix',bs0]
   rfl
  | some f=>
   rw[hf] at l2
   have hfm:=List.mem_of_find?_eq_some hf
   have h1:=t290 (.fn (.func 291) [] [.ip (ab e.av)]) (fun f=>f.name== e.s) f.funcs (by have:=K.slen f hfm;omega) (fun g=>by simp[cl,ee]) (fun f _=>PC f e)
   simp only[cw] at h1
   rcases l9 (fun f:Sig=>f.name== e.s) f.funcs 0 with ⟨h2,h3⟩ | ⟨k,s,h2,h3,h4⟩
   ·rw[h3] at h1
    have ec:cZ (ej m fs) e=none:=by simp[cZ,ej,hm,hf,h2]
    rw[ec]
    refine⟨_,?_,rfl⟩
    simp[S224,hm',l1,l2,cmf,h1,bs0]
    rfl
   ·rw[Int.zero_add] at h4
    rw[h4] at h1
    have hk:=(List.getElem?_eq_some_iff.1 h3).1
    have hix:=Iy (l:=f.funcs) (n:=(k:Int)) (by omega) (by omega)
    rw[Int.toNat_natCast,List.getElem!_eq_getElem?_getD,h3,Option.getD_some] at hix
    have hneg:¬ ((k:Int) < 0):=by omega
    by_cases hu:e.m∈m.uses
    case neg=>
     have hu':m.uses.contains e.m=false:=by rw[← Bool.not_eq_true,List.contains_iff_mem];exact hu
     rw[hu'] at hct
     have ec:cZ (ej m fs) e=none:=by simp[cZ,ej,hm,hf,h2,hu]
     rw[ec]
     refine⟨_,?_,rfl⟩
     simp[S224,hm',l1,l2,l4,cmf,h1,hneg,hct,bs0]
     rfl
    case pos=>
     rw[List.contains_iff_mem.2 hu] at hct
     have ec:cZ (ej m fs) e=some (s.params,s.result,s.effects):=by simp[cZ,ej,hm,hf,h2,hu]
     rw[ec]
     have ym:ar 5 [] s.av=M.pure s.av:=uj s
     refine⟨_,?_,s.name,rfl⟩
     simp[S224,hm',l1,l2,l4,cmf,h1,hneg,hct,hix,ym]
     rfl
theorem Ei(k:Int)(es:List Exp):aL T false 74 [(0,.int .i64 k),(5,cG es)]=some (Exp.mk k 0 [] [] [] es).av:=rfl
theorem um(e:Exp):aC 6 e.av=M.pure e.av:=by rw[bd (kG _),cw,fD]
theorem D1(e:Exp):ar 6 [] e.av=M.pure e.av:=by rw[aR (kG _),cw,fD]
theorem f6(o n:Int)(s m:aW)(ns:List aW)(es:List Exp):AV.agg [.int .i64 o,.int .i64 n,.str s,.str m,strs ns,cG es]=(Exp.mk o n s m ns es).av:=fD (Exp.mk o n s m ns es)
theorem PK(o n:Int)(s m:aW)(es:List Exp):AV.agg [.int .i64 o,.int .i64 n,.str s,.str m,.sl [],cG es]=(Exp.mk o n s m [] es).av:=fD (Exp.mk o n s m [] es)
theorem Aw(e:Exp)(n:Int):aF (M.pure (.tup [e.av,.int .i64 n]))=M.pure (.tup [e.av,.int .i64 n]):=bP fun g=>by simp[cl,ee]
theorem cj(o n:Int)(s m:aW)(ns:List aW)(es:List Exp):ab (Exp.mk o n s m ns es).av=[.int .i64 o,.int .i64 n,.str s,.str m,strs ns,cG es]:=cw _
theorem t234(e:Exp):ai pg 234 [e.av]=M.pure (.tup [(fc e).1.av,.int .i64 (fc e).2]):=by
 have hc1:∀ n:Int,cq (.int .i64 n)=M.pure (.int .i64 n):=fun n=>rfl
 have hc2:∀ s:aW,cq (.str s)=M.pure (.str s):=fun s=>rfl
 have hc3:∀ s:List aW,cq (strs s)=M.pure (strs s):=fun s=>rfl
 rw[C234]
 obtain⟨o,n,s,m,ns,es⟩:=e
 have ho:o=0∨o=1∨o=2∨o=17∨o=18∨o=14∨o=16∨o=10∨o=12∨o=11∨o=13∨o=15∨(o≠0∧o≠1∧o≠2∧o≠17∧o≠18∧o≠14∧o≠16∧o≠10∧o≠12∧o≠11∧o≠13∧o≠15):=by omega
 rcases ho with rfl | rfl | rfl | rfl | rfl | rfl | rfl | rfl | rfl | rfl | rfl | rfl | ⟨h0,h1,h2,h17,h18,h14,h16,h10,h12,h11,h13,h15⟩
 all_goals first
  | (simp[S234,K234_0,K234_1,K234_2,Ei,D1,cj,f6,PK,hc1,hc2,hc3,fc,Exp.op,Exp.n,Exp.s,Exp.m,Exp.names,Exp.args]
     exact Aw _ _)
  | (simp[S234,K234_0,K234_1,K234_2,Ei,D1,cj,f6,PK,hc1,hc2,hc3,fc,Exp.op,Exp.n,Exp.s,Exp.m,Exp.names,Exp.args,h0,h1,h2,h17,h18,h14,h16,h10,h12,h11,h13,h15]
     exact Aw _ _)
theorem EV(e:Exp)(he:e.Lim):af (L235_0 (ai pg) af) [.ip (ab e.av),strs e.names,.int .i64 e.names.length,.int .i64 0]=M.pure (.bool (uJ e.names)):=by
 have hlen:=he.names
 have hloop:∀(m i:Nat),e.names.length - i=m→i≤e.names.length→af (L235_0 (ai pg) af) [.ip (ab e.av),strs e.names,.int .i64 e.names.length,.int .i64 i]=M.pure (.bool ((List.range' i (e.names.length - i)).all (fun k=>cX e.names[k]! && (decide (k=0)||fb e.names[k - 1]! e.names[k]!))&&decide (e.names.length≤8))):=by
  intro m
  induction m with
  | zero=>
   intro i hm hi
   rw[FL235_0,hm]
   have h1:¬ ((i:Int) < (e.names.length:Int)):=by omega
   have h2:decide ((e.names.length:Int)≤8)=decide (e.names.length≤8):=by rw[decide_eq_decide];omega
   simp[L235_0,h1,h2]
  | succ m ih=>
   intro i hm hi
   have hlt:i < e.names.length:=by omega
   have h1:(i:Int) < (e.names.length:Int):=by omega
   have ih':=ih (i + 1) (by omega) (by omega)
   have er:List.range' i (e.names.length - i)=i:: List.range' (i + 1) (e.names.length - (i + 1)):=by
    rw[show e.names.length - i=(e.names.length - (i + 1)) + 1 by omega,List.range'_succ]
   have hix:=vA (l:=e.names) (n:=(i:Int)) (by omega) h1
   rw[Int.toNat_natCast] at hix
   have hw:IntKind.i64.wrap ((i:Int) + 1)=((i + 1:Nat):Int):=bG (by omega)
   have h2:=t53 e.names[i]!
   rw[FL235_0,er,List.all_cons]
   generalize e.names[i]! = s at hix h2 ⊢
   cases hn:cX s with
   | false=>
    rw[hn] at h2
    simp[L235_0,h1,hix,h2]
   | true=>
    rw[hn] at h2
    rcases Nat.eq_zero_or_pos i with hk0 | hk0
    ·subst hk0
     have hix0:ak T 22 (strs e.names) (.int .i64 0)=some (.ip (ab (.str s))):=hix
     have hw0:IntKind.i64.wrap 1=1:=rfl
     have hlt':0 < e.names.length:=hlt
     simpa [L235_0,h1,hlt',hix0,h2,hw0] using ih'
    ·have hp:IntKind.i64.wrap ((i:Int) - 1)=((i - 1:Nat):Int):=by
      rw[br (by omega) (by omega)];omega
     have h4:((i - 1:Nat):Int) < (e.names.length:Int):=by omega
     have hix2:=vA (l:=e.names) (n:=((i - 1:Nat):Int)) (by omega) h4
     rw[Int.toNat_natCast] at hix2
     generalize e.names[i - 1]! = g at hix2 ⊢
     have hk2:0 < (i:Int):=by omega
     have hk3:¬ i=0:=by omega
     have hle:am T .leq 9 (.str s) (.str g)=some (.bool (!(fb g s))):=by
      have:am T .leq 9 (.str s) (.str g)=some (.bool (aG s g||s== g)):=rfl
      rw[this];simp[fb]
     cases hs:fb g s with
     | false=>
      rw[hs] at hle
      simp[L235_0,h1,hix,h2,hp,hix2,hk0,hk2,hk3,hle,-A4]
     | true=>
      rw[hs] at hle
      simpa [L235_0,h1,hix,h2,hp,hix2,hk0,hk2,hk3,hle,hw,-A4] using ih'
 have h:=hloop e.names.length 0 rfl (Nat.zero_le _)
 rw[Nat.sub_zero,zY] at h
 exact h
theorem t235(e:Exp)(he:e.Lim):ai pg 235 [e.av]=M.pure (.bool (fq e)):=by
 rw[C235]
 have hs:=t53 e.s
 have hm:=t53 e.m
 have hbn:=EV e he
 obtain⟨o,n,s,m,ns,es⟩:=e
 simp only[cj,Exp.names] at hbn
 simp only[Exp.s,Exp.m] at hs hm
 have ho:o=0∨o=1∨o=2∨o=17∨o=18∨o=14∨o=16∨o=12∨o=13∨o=15∨(o≠0∧o≠1∧o≠2∧o≠17∧o≠18∧o≠14∧o≠16∧o≠12∧o≠13∧o≠15):=by omega
 rcases ho with rfl | rfl | rfl | rfl | rfl | rfl | rfl | rfl | rfl | rfl | ⟨h0,h1,h2,h17,h18,h14,h16,h12,h13,h15⟩
 ·simp[S235,K235_0,cj,fq,Exp.op,Exp.n,Exp.s,Exp.m,Exp.names,Exp.args]
  rfl
 ·simp[S235,K235_0,cj,fq,Exp.op,Exp.n,Exp.s,Exp.m,Exp.names,Exp.args]
 ·simp[S235,K235_0,cj,fq,Exp.op,Exp.n,Exp.s,Exp.m,Exp.names,Exp.args,hs]
 ·simp[S235,K235_0,cj,fq,Exp.op,Exp.n,Exp.s,Exp.m,Exp.names,Exp.args,hs]
 ·simp[S235,K235_0,cj,fq,Exp.op,Exp.n,Exp.s,Exp.m,Exp.names,Exp.args,hs]
 ·simp[S235,K235_0,cj,fq,Exp.op,Exp.n,Exp.s,Exp.m,Exp.names,Exp.args,hs]
 ·simp[S235,K235_0,cj,fq,Exp.op,Exp.n,Exp.s,Exp.m,Exp.names,Exp.args]
 ·simp[S235,K235_0,cj,fq,Exp.op,Exp.n,Exp.s,Exp.m,Exp.names,Exp.args,hs]
 ·simp[S235,K235_0,cj,fq,Exp.op,Exp.n,Exp.s,Exp.m,Exp.names,Exp.args,hbn]
 ·have e6:am T .leq 3 (.int .i64 es.length) (.int .i64 6)=some (.bool (decide (es.length≤6))):=by
   have:am T .leq 3 (.int .i64 es.length) (.int .i64 6)=some (.bool (decide ((es.length:Int)≤6))):=rfl
   rw[this]
   exact congrArg (fun b=>some (AV.bool b)) (decide_eq_decide.2 (by omega))
  cases ha:cX s with
  | false=>rw[ha] at hs;simp[S235,K235_0,cj,fq,Exp.op,Exp.n,Exp.s,Exp.m,Exp.names,Exp.args,hs,ha]
  | true=>
   rw[ha] at hs
   by_cases hme:m=[]
   ·simp[S235,K235_0,cj,fq,Exp.op,Exp.n,Exp.s,Exp.m,Exp.names,Exp.args,hs,ha,hme,e6,-ug];try rfl
   ·cases hb:cX m with
    | false=>rw[hb] at hm;simp[S235,K235_0,cj,fq,Exp.op,Exp.n,Exp.s,Exp.m,Exp.names,Exp.args,hs,hm,ha,hb,hme,e6,-ug];try rfl
    | true=>rw[hb] at hm;simp[S235,K235_0,cj,fq,Exp.op,Exp.n,Exp.s,Exp.m,Exp.names,Exp.args,hs,hm,ha,hb,hme,e6,-ug];try rfl
 ·simp[S235,K235_0,cj,fq,Exp.op,Exp.n,Exp.s,Exp.m,Exp.names,Exp.args,h0,h1,h2,h17,h18,h14,h16,h12,h13,h15]
theorem t156:∀(d:Nat),d≤100→∀(e:Exp),e.Lim→ai pg 156 [e.av,.int .i64 d]=M.pure (.bool (cE d e))
 | 0,_,e,_=>by
  rw[C156]
  simp[S156,cE]
 | d + 1,hd,e,he=>by
  have hlen:=he.len
  have hd1:IntKind.i64.wrap (((d + 1:Nat):Int) - 1)=(d:Int):=tV (by omega)
  have hloop:∀(m i:Nat),e.args.length - i=m→i≤e.args.length→af (L156_0 (ai pg) af) [.int .i64 ((d + 1:Nat):Int),cG e.args,.int .i64 e.args.length,.int .i64 i]=M.pure (.bool ((e.args.drop i).all (cE d))):=by
   intro m
   induction m with
   | zero=>
    intro i hm hi
    have h1:¬ ((i:Int) < (e.args.length:Int)):=by omega
    have h2:e.args.drop i=[]:=List.drop_eq_nil_of_le (by omega)
    rw[FL156_0,h2]
    simp[L156_0,h1]
   | succ m ih=>
    intro i hm hi
    have hlt:i < e.args.length:=by omega
    have h1:(i:Int) < (e.args.length:Int):=by omega
    have h2:e.args.drop i=e.args[i]:: e.args.drop (i + 1):=List.drop_eq_getElem_cons hlt
    have hix:=pB (l:=e.args) (n:=(i:Int)) (by omega) h1
    rw[Int.toNat_natCast,getElem!_pos e.args i hlt] at hix
    have hw:IntKind.i64.wrap ((i:Int) + 1)=((i + 1:Nat):Int):=bG (by omega)
    have hb:=t156 d (by omega) e.args[i] (he.kid (List.getElem_mem hlt))
    have ih':=ih (i + 1) (by omega) (by omega)
    rw[h2,List.all_cons,FL156_0]
    generalize e.args[i]=x at hix hb ⊢
    cases hr:cE d x <;> rw[hr] at hb <;>
    simp only[L156_0,bu,bD,cN,aT,h1,decide_true,bz,if_true,hix,cw,LD74,List.length_cons,List.length_nil,Nat.zero_add,Nat.reduceAdd,Nat.le_refl,List.take_succ_cons,List.take_zero,fD,um,bi,Gd,hd1,hb,jT,Bool.not_false,Bool.not_true,Bool.false_eq_true,if_false,fA,hw,ih',Bool.false_and,Bool.true_and]
  have hx':af (L156_0 (ai pg) af) [.int .i64 ((d:Int) + 1),cG e.args,.int .i64 e.args.length,.int .i64 0]=M.pure (.bool (e.args.all (cE d))):=hloop e.args.length 0 rfl (Nat.zero_le _)
  have hc:=t234 e
  have hl:=t235 e he
  rw[C156,kQ]
  unfold kR
  generalize (fc e).1=c at hc ⊢
  generalize (fc e).2=n at hc ⊢
  have g1:(((d:Int) + 1)== 0)=false:=by rw[beq_eq_false_iff_ne];omega
  have x0:az (.tup [c.av,.int .i64 n]) 0=some c.av:=rfl
  have x1:az (.tup [c.av,.int .i64 n]) 1=some (.int .i64 n):=rfl
  have e1:am T .neq 3 (.int .i64 c.n) (.int .i64 e.n)=some (.bool (!(c.n== e.n))):=rfl
  have e2:am T .neq 9 (.str c.s) (.str e.s)=some (.bool (!(c.s== e.s))):=rfl
  have e3:am T .neq 9 (.str c.m) (.str e.m)=some (.bool (!(c.m== e.m))):=rfl
  have e4:am T .neq 3 (.int .i64 c.names.length) (.int .i64 e.names.length)=some (.bool (!((c.names.length:Int)== (e.names.length:Int)))):=rfl
  have e5:am T .neq 3 (.int .i64 n) (.int .i64 e.args.length)=some (.bool (!(n== (e.args.length:Int)))):=rfl
  have e6:am T .geq 3 (.int .i64 n) (.int .i64 0)=some (.bool (!(decide (n < 0)))):=by
   have:am T .geq 3 (.int .i64 n) (.int .i64 0)=some (.bool (decide (0≤n))):=rfl
   rw[this,← decide_not]
   exact congrArg (fun b=>some (AV.bool b)) (decide_eq_decide.2 (by omega))
  have e7:am T .lss 3 (.int .i64 e.op) (.int .i64 0)=some (.bool (!(decide (0≤e.op)))):=by
   have:am T .lss 3 (.int .i64 e.op) (.int .i64 0)=some (.bool (decide (e.op < 0))):=rfl
   rw[this,← decide_not]
   exact congrArg (fun b=>some (AV.bool b)) (decide_eq_decide.2 (by omega))
  have e8:am T .geq 3 (.int .i64 e.op) (.int .i64 19)=some (.bool (!(decide (e.op < 19)))):=by
   have:am T .geq 3 (.int .i64 e.op) (.int .i64 19)=some (.bool (decide (19≤e.op))):=rfl
   rw[this,← decide_not]
   exact congrArg (fun b=>some (AV.bool b)) (decide_eq_decide.2 (by omega))
  generalize (c.n== e.n)=b1 at e1 ⊢
  generalize (c.s== e.s)=b2 at e2 ⊢
  generalize (c.m== e.m)=b3 at e3 ⊢
  generalize ((c.names.length:Int)== (e.names.length:Int))=b4 at e4 ⊢
  generalize (n== (e.args.length:Int))=b5 at e5 ⊢
  generalize decide (n < 0)=b6 at e6 ⊢
  generalize decide (0≤e.op)=b7 at e7 ⊢
  generalize decide (e.op < 19)=b8 at e8 ⊢
  generalize fq e=bl at hl ⊢
  generalize e.args.all (cE d)=bx at hx' ⊢
  cases b7 with
  | false=>simp[S156,g1,e7,-cN]
  | true=>
   cases b8 with
   | false=>simp[S156,g1,e7,e8,-cN,-uf]
   | true=>
    cases b6 <;> cases b5 <;> cases b1 <;> cases b2 <;> cases b3 <;> cases b4 <;> cases bl <;> simp[S156,g1,hc,x0,x1,um,hl,hx',e1,e2,e3,e4,e5,e6,e7,e8,-cN,-uf,-uh]
theorem t56(e:Exp)(he:e.Lim):ai pg 56 [e.av]=M.pure (.bool (AR e)):=by
 have hb':ai pg 156 [e.av,.int .i64 12]=M.pure (.bool (cE 12 e)):=t156 12 (by omega) e he
 rw[C56]
 simp[S56,hb']
def NO(q:Nat)(m:Ap.Mod)(mp:AV)(h:Hp):Tr Ty→Av.R AV
 | .ok t n=>.ok (.tup [t.av,.int .i64 0]) (h.set q (aZ m mp n))
 | .er b n=>.ok (.tup [ty0.av,.int .i64 b]) (h.set q (aZ m mp n))
def PS(q:Nat)(m:Ap.Mod)(mp:AV)(h:Hp)(acc:List Ty):Tr (List Ty)→Av.R AV
 | .ok ts n=>.ok (.tup [gn (acc++ts),.int .i64 0]) (h.set q (aZ m mp n))
 | .er b n=>.ok (.tup [.sl [],.int .i64 b]) (h.set q (aZ m mp n))
def lL(q:Nat)(m:Ap.Mod)(mp:AV)(fs:List Face)(d:Nat):Prop:=∀(ls:List cr)(e:Exp)(n:Int)(h:Hp),cE d e=true→e.Lim→(∀ z∈ls,eb z.2)→ls.length + d≤1000000→JR h q m mp fs n→
 ai pg 51 [.hp q 0,aH ls,e.av] h=NO q m mp h (bF (ej m fs) d ls e n)∧∀ t n',bF (ej m fs) d ls e n= .ok t n'→eb t
theorem Fc{q:Nat}{m:Ap.Mod}{mp:AV}{fs:List Face}{d:Nat}(P:lL q m mp fs d)(ls:List cr)(hls:∀ z∈ls,eb z.2)(hll:ls.length + d≤1000000)(es:List Exp)(hes:es.length≤140737488355328)(he:∀ e∈es,cE d e=true∧e.Lim):∀(k i:Nat)(acc:List Ty)(n:Int)(h:Hp),es.length - i=k→i≤es.length→acc.length≤i→es.length≤1000000→JR h q m mp fs n→
  af (L149_0 (ai pg) af) [.hp q 0,aH ls,gn acc,cG es,.int .i64 es.length,.int .i64 i] h=PS q m mp h acc (ef (bF (ej m fs) d ls) (es.drop i) n)∧∀ ts n',ef (bF (ej m fs) d ls) (es.drop i) n= .ok ts n'→ts.length=es.length - i∧∀ t∈ts,eb t:=by
 intro k
 induction k with
 | zero=>
  intro i acc n h hk hi ha hs R
  have h1:¬ ((i:Int) < (es.length:Int)):=by omega
  have h2:es.drop i=[]:=List.drop_eq_nil_of_le (by omega)
  rw[h2]
  refine⟨?_,fun ts n' ht=>?_⟩
  ·rw[FL149_0]
   show _=Av.R.ok (AV.tup [gn (acc++[]),.int .i64 0]) (h.set q (aZ m mp n))
   rw[R.same,List.append_nil]
   simp[L149_0,h1]
   rfl
  ·cases ht
   exact⟨by simp;omega,fun t ht=>by cases ht⟩
 | succ k ih=>
  intro i acc n h hk hi ha hs R
  have hlt:i < es.length:=by omega
  have h1:(i:Int) < (es.length:Int):=by omega
  have h2:es.drop i=es[i]:: es.drop (i + 1):=List.drop_eq_getElem_cons hlt
  have hw:IntKind.i64.wrap ((i:Int) + 1)=(i:Int) + 1:=bG (by omega)
  have hix:=pB (l:=es) (n:=(i:Int)) (by omega) h1
  rw[Int.toNat_natCast,getElem!_pos es i hlt] at hix
  obtain⟨hr,hl⟩:=he es[i] (List.getElem_mem hlt)
  obtain⟨p1,p2⟩:=P ls es[i] n h hr hl hls hll R
  rw[h2]
  have hne:=gW (ej m fs) d ls es[i] n
  generalize es[i]=e at hix hr hl p1 p2 hne ⊢
  generalize hcode:af (L149_0 (ai pg) af) [.hp q 0,aH ls,gn acc,cG es,.int .i64 es.length,.int .i64 i] h=code
  rw[FL149_0] at hcode
  simp -implicitDefEqProofs only[L149_0,bu,bD,cN,aT,h1,decide_true,bz,if_true,hix,cw,LD74,List.length_cons,List.length_nil,Nat.zero_add,Nat.reduceAdd,Nat.le_refl,List.take_succ_cons,List.take_zero,fD,um,bi] at hcode
  cases ht:bF (ej m fs) d ls e n with
  | er b n'=>
   rw[ht] at p1
   have hb:(b != 0)=true:=bne_iff_ne.2 (hne b n' ht)
   have hz:aC 2 ty0.av=M.pure ty0.av:=Av.fS ty0
   rw[aV p1] at hcode
   simp -implicitDefEqProofs only[mI,List.getElem?_cons_zero,List.getElem?_cons_succ,aT,hz,bi,uh,hb,bz,if_true] at hcode
   have e1:ef (bF (ej m fs) d ls) (e:: es.drop (i + 1)) n= .er b n':=by
    simp only[ef,ew.bind,ht]
   rw[e1]
   exact⟨hcode.symm,fun ts n'' h3=>by cases h3⟩
  | ok t n'=>
   rw[ht] at p1
   rw[aV p1] at hcode
   have R':=R.set n'
   obtain⟨i1,i2⟩:=ih (i + 1) (acc++[t]) n' (h.set q (aZ m mp n')) (by omega) (by omega) (by simp;omega) hs R'
   have hap:=CF (a:=acc) (b:=[t]) (by simp;omega)
   have hsl:aB T 148 1 [(0,t.av)]=some (gn [t]):=by cases t;rfl
   have i1':af (L149_0 (ai pg) af) [.hp q 0,aH ls,gn (acc++[t]),cG es,.int .i64 es.length,.int .i64 ((i:Int) + 1)] (h.set q (aZ m mp n'))=_:=i1
   simp -implicitDefEqProofs only[mI,List.getElem?_cons_zero,List.getElem?_cons_succ,aT,Av.fS,bi,uh,bne_self_eq_false,bz,Bool.false_eq_true,if_false,dI,LD72,List.length_cons,List.length_nil,Nat.zero_add,Nat.reduceAdd,Nat.le_refl,if_true,List.take_succ_cons,List.take_zero,eA,hsl,hap,fA,hw,i1'] at hcode
   have e1:ef (bF (ej m fs) d ls) (e:: es.drop (i + 1)) n=(match ef (bF (ej m fs) d ls) (es.drop (i + 1)) n' with | .ok ts n''=>.ok (t:: ts) n'' | .er b n''=>.er b n''):=by
    simp only[ef,ew.bind,ht]
    cases ef (bF (ej m fs) d ls) (es.drop (i + 1)) n' <;> rfl
   rw[e1]
   cases hL:ef (bF (ej m fs) d ls) (es.drop (i + 1)) n' with
   | er b n''=>
    rw[hL] at hcode
    refine⟨?_,fun ts n'' h3=>by cases h3⟩
    rw[← hcode]
    show Av.R.ok _ _=Av.R.ok _ _
    rw[JR.twice]
   | ok ts n''=>
    rw[hL] at hcode
    obtain⟨j1,j2⟩:=i2 ts n'' hL
    refine⟨?_,fun us n3 h3=>?_⟩
    ·rw[← hcode]
     show Av.R.ok _ _=Av.R.ok _ _
     rw[JR.twice,List.append_assoc]
     rfl
    ·cases h3
     refine⟨by simp only[List.length_cons];omega,fun u hu=>?_⟩
     rcases List.mem_cons.1 hu with rfl | hu
     ·exact p2 _ _ ht
     ·exact j2 u hu
theorem Nx{q:Nat}{m:Ap.Mod}{mp:AV}{fs:List Face}{d:Nat}(P:lL q m mp fs d)(ls:List cr)(hls:∀ z∈ls,eb z.2)(hll:ls.length + d≤1000000)(es:List Exp)(hes:es.length≤1000000)(he:∀ e∈es,cE d e=true∧e.Lim)(n:Int)(h:Hp)(R:JR h q m mp fs n):
  ai pg 149 [.hp q 0,aH ls,cG es] h=PS q m mp h [] (ef (bF (ej m fs) d ls) es n)∧∀ ts n',ef (bF (ej m fs) d ls) es n= .ok ts n'→ts.length=es.length∧∀ t∈ts,eb t:=by
 obtain⟨h1,h2⟩:=Fc P ls hls hll es (by omega) he es.length 0 [] n h rfl (Nat.zero_le _) (Nat.zero_le _) hes R
 rw[List.drop_zero] at h1 h2
 refine⟨?_,fun ts n' ht=>h2 ts n' ht⟩
 rw[← h1,C149]
 simp only[S149,IC,aT]
 rfl
theorem sg:aL T false 72 []=some ty0.av:=rfl
theorem jE{u t:Ty}(hu:eb u)(ht:bO t=true):ai pg 52 [u.av,t.av]=M.pure (.bool (bW u t)):=t52 4 t u (hu 4) (fj ht 4) ht
theorem Pt{q:Nat}{m:Ap.Mod}{mp:AV}{fs:List Face}{d:Nat}(P:lL q m mp fs d)(K:CxOk m fs)(ls:List cr)(hls:∀ z∈ls,eb z.2)(hll:ls.length + d≤1000000)(e:Exp)(hop:e.op=17∨e.op=18)(ha:e.op=18→∃ x,e.args=[x]∧cE d x=true∧x.Lim)(n:Int)(h:Hp)(R:JR h q m mp fs n):
  ai pg 147 [.hp q 0,aH ls,e.av] h=NO q m mp h (db (ej m fs) (bF (ej m fs) d) ls e n)∧∀ t n',db (ej m fs) (bF (ej m fs) d) ls e n= .ok t n'→eb t:=by
 have l1:∀ f:AV→M AV,ae (bA T 23 (.hp q 2)) f h=f (aH m.vars) h:=fun f=>aV R.vars f
 have hk:=t145 m.vars (by have:=K.vlen;omega) e.s
 rw[rW hop,C147]
 show S147 (ai pg) af (.hp q 0) (aH ls) e.av h=NO q m mp h ((match cm (fun z=>z.1== e.s) m.vars with
  | none=>ew.er 12
  | some z=>if e.op=18 then ew.bind (bF (ej m fs) d ls e.args[0]!) fun u=>if bW u z.2=true then ew.ok z.2 else ew.er 13 else ew.ok z.2:ew Ty) n)∧∀ t n',(match cm (fun z=>z.1== e.s) m.vars with
  | none=>ew.er 12
  | some z=>if e.op=18 then ew.bind (bF (ej m fs) d ls e.args[0]!) fun u=>if bW u z.2=true then ew.ok z.2 else ew.er 13 else ew.ok z.2:ew Ty) n= .ok t n'→eb t
 cases hz:cm (fun z:cr=>z.1== e.s) m.vars with
 | none=>
  rw[hz] at hk
  refine⟨?_,fun t n' h3=>by cases h3⟩
  show _=Av.R.ok (AV.tup [ty0.av,.int .i64 12]) (h.set q (aZ m mp n))
  rw[R.same]
  simp[S147,l1,hk,sg]
  rfl
 | some z=>
  rw[hz] at hk
  dsimp only
  have hzr:=K.vars z (ic hz).1
  rcases hop with hop | hop
  ·rw[if_neg (show ¬ e.op=18 by omega)]
   refine⟨?_,fun t n' h3=>by cases h3;exact fj hzr⟩
   show _=Av.R.ok (AV.tup [z.2.av,.int .i64 0]) (h.set q (aZ m mp n))
   rw[R.same]
   simp[S147,K147_0,l1,hk,hop]
   rfl
  ·rw[if_pos hop]
   obtain⟨x,hx,hr,hl⟩:=ha hop
   have hx0:e.args[0]! = x:=by rw[hx];rfl
   obtain⟨p1,p2⟩:=P ls x n h hr hl hls hll R
   have hix:ak T 24 (cG e.args) (.int .i64 0)=some (.ip (ab x.av)):=by
    have:=pB (l:=e.args) (n:=0) (by omega) (by rw[hx];simp)
    rw[this,hx];rfl
   rw[hx0]
   have hne:=gW (ej m fs) d ls x n
   cases ht:bF (ej m fs) d ls x n with
   | er b n'=>
    rw[ht] at p1
    have hb:(b != 0)=true:=bne_iff_ne.2 (hne b n' ht)
    have k1:∀ f:AV→M AV,ae (ai pg 51 [.hp q 0,aH ls,x.av]) f h=f (.tup [ty0.av,.int .i64 b]) (h.set q (aZ m mp n')):=fun f=>aV p1 f
    have e1:ew.bind (bF (ej m fs) d ls x) (fun u=>if bW u z.2=true then ew.ok z.2 else ew.er 13) n= .er b n':=by simp only[ew.bind,ht]
    rw[e1]
    refine⟨?_,fun t n' h3=>by cases h3⟩
    show _=Av.R.ok (AV.tup [ty0.av,.int .i64 b]) (h.set q (aZ m mp n'))
    simp[S147,K147_0,l1,hk,hop,hix,k1,hb,sg]
    rfl
   | ok u n'=>
    rw[ht] at p1
    have hus:=p2 u n' ht
    have k1:∀ f:AV→M AV,ae (ai pg 51 [.hp q 0,aH ls,x.av]) f h=f (.tup [u.av,.int .i64 0]) (h.set q (aZ m mp n')):=fun f=>aV p1 f
    have hbl:=jE hus hzr
    cases hb:bW u z.2 with
    | true=>
     rw[hb] at hbl
     have e1:ew.bind (bF (ej m fs) d ls x) (fun u=>if bW u z.2=true then ew.ok z.2 else ew.er 13) n= .ok z.2 n':=by simp only[ew.bind,ht,hb,if_true];rfl
     rw[e1]
     refine⟨?_,fun t n' h3=>by cases h3;exact fj hzr⟩
     show _=Av.R.ok (AV.tup [z.2.av,.int .i64 0]) (h.set q (aZ m mp n'))
     simp[S147,K147_0,l1,hk,hop,hix,k1,hbl]
     rfl
    | false=>
     rw[hb] at hbl
     have e1:ew.bind (bF (ej m fs) d ls x) (fun u=>if bW u z.2=true then ew.ok z.2 else ew.er 13) n= .er 13 n':=by simp only[ew.bind,ht,hb,Bool.false_eq_true,if_false];rfl
     rw[e1]
     refine⟨?_,fun t n' h3=>by cases h3⟩
     show _=Av.R.ok (AV.tup [ty0.av,.int .i64 13]) (h.set q (aZ m mp n'))
     simp[S147,K147_0,l1,hk,hop,hix,k1,hbl,sg]
     rfl
theorem Fb{q:Nat}{m:Ap.Mod}{mp:AV}{fs:List Face}{n:Int}{h:Hp}(R:JR h q m mp fs n)(s:Sig)(l:List Ty)(hl:∀ t∈l,eb t)(hps:∀ t∈s.params,bO t=true)(hlen:l.length=s.params.length)(hb:l.length≤1000000)(x y:AV):∀(k i:Nat),l.length - i=k→i≤l.length→
  af (L148_0 (ai pg) af) [.hp q 0,.ip (ab s.av),gn l,.int .i64 l.length,.int .i64 i,x,y] h=(if pD bW (l.drop i) (s.params.drop i)=true then .ok (.tup [s.result.av,.int .i64 0]) (h.set q (aZ m mp (pi n s.effects))) else .ok (.tup [ty0.av,.int .i64 13]) h):=by
 intro k
 induction k with
 | zero=>
  intro i hk hi
  have h1:¬ ((i:Int) < (l.length:Int)):=by omega
  have h2:l.drop i=[]:=List.drop_eq_nil_of_le (by omega)
  have h3:s.params.drop i=[]:=List.drop_eq_nil_of_le (by omega)
  rw[h2,h3,if_pos (show pD bW [] []=true from rfl)]
  have l1:∀ f:AV→M AV,ae (bA T 3 (.hp q 10)) f h=f (.int .i64 n) h:=fun f=>aV R.eff f
  have l2:∀ f:AV→M AV,ae (bK T 3 (.hp q 10) (.int .i64 (pi n s.effects))) f h=f (.tup []) (h.set q (aZ m mp (pi n s.effects))):=fun f=>aV (R.put _) f
  have hor:am T .or 3 (.int .i64 n) (.int .i64 s.effects)=some (.int .i64 (pi n s.effects)):=rfl
  rw[FL148_0]
  simp[L148_0,h1,l1,hor,l2]
  rfl
 | succ k ih=>
  intro i hk hi
  have hlt:i < l.length:=by omega
  have hlt2:i < s.params.length:=by omega
  have h1:(i:Int) < (l.length:Int):=by omega
  have h2:l.drop i=l[i]:: l.drop (i + 1):=List.drop_eq_getElem_cons hlt
  have h3:s.params.drop i=s.params[i]:: s.params.drop (i + 1):=List.drop_eq_getElem_cons hlt2
  have hw:IntKind.i64.wrap ((i:Int) + 1)=(i:Int) + 1:=bG (by omega)
  have hix:=oJ (l:=l) (n:=(i:Int)) (by omega) h1
  rw[Int.toNat_natCast,getElem!_pos l i hlt] at hix
  have hix2:=oJ (l:=s.params) (n:=(i:Int)) (by omega) (by omega)
  rw[Int.toNat_natCast,getElem!_pos s.params i hlt2] at hix2
  have hbl:=jE (hl _ (List.getElem_mem hlt)) (hps _ (List.getElem_mem hlt2))
  have ih':af (L148_0 (ai pg) af) [.hp q 0,.ip (ab s.av),gn l,.int .i64 l.length,.int .i64 ((i:Int) + 1),x,y] h=_:=ih (i + 1) (by omega) (by omega)
  rw[h2,h3]
  generalize l[i]=u at hix hbl ⊢
  generalize s.params[i]=t at hix2 hbl ⊢
  have ea:pD bW (u:: l.drop (i + 1)) (t:: s.params.drop (i + 1))=(bW u t&&pD bW (l.drop (i + 1)) (s.params.drop (i + 1))):=rfl
  rw[ea]
  generalize hcode:af (L148_0 (ai pg) af) [.hp q 0,.ip (ab s.av),gn l,.int .i64 l.length,.int .i64 i,x,y] h=code
  rw[FL148_0] at hcode
  cases hb2:bW u t with
  | true=>
   rw[hb2] at hbl
   rw[Bool.true_and,← ih']
   simp -implicitDefEqProofs only[L148_0,bu,bD,cN,aT,h1,decide_true,bz,if_true,hix,dI,LD72,List.length_cons,List.length_nil,Nat.zero_add,Nat.reduceAdd,Nat.le_refl,List.take_succ_cons,List.take_zero,eA,Av.fS,bi,fa,FA150_1,List.drop_succ_cons,List.drop_zero,LD148,hix2,hbl,ff,jT,Bool.not_true,Bool.false_eq_true,if_false,fA,hw] at hcode
   rw[← hcode,fa]
  | false=>
   rw[hb2] at hbl
   rw[Bool.false_and,if_neg (by decide)]
   have hz:ar 2 [] ty0.av=M.pure ty0.av:=vU ty0
   have ha:ab ty0.av=[.int .i64 0,.sl []]:=rfl
   simp -implicitDefEqProofs only[L148_0,bu,bD,cN,aT,h1,decide_true,bz,if_true,hix,dI,LD72,List.length_cons,List.length_nil,Nat.zero_add,Nat.reduceAdd,Nat.le_refl,List.take_succ_cons,List.take_zero,eA,Av.fS,bi,fa,FA150_1,List.drop_succ_cons,List.drop_zero,LD148,hix2,hbl,ff,jT,Bool.not_false,sg,hz] at hcode
   rw[← hcode]
   rfl
theorem Pu{q:Nat}{m:Ap.Mod}{mp:AV}{fs:List Face}{d:Nat}(P:lL q m mp fs d)(K:CxOk m fs)(ls:List cr)(hls:∀ z∈ls,eb z.2)(hll:ls.length + d≤1000000)(e:Exp)(hop:e.op=15)(hlen:e.args.length≤1000000)(ha:∀ x∈e.args,cE d x=true∧x.Lim)(n:Int)(h:Hp)(R:JR h q m mp fs n):
  ai pg 148 [.hp q 0,aH ls,e.av] h=NO q m mp h (db (ej m fs) (bF (ej m fs) d) ls e n)∧∀ t n',db (ej m fs) (bF (ej m fs) d) ls e n= .ok t n'→eb t:=by
 obtain⟨r,c1,c2⟩:=Px R K e
 have k1:∀ f:AV→M AV,ae (ai pg 224 [.hp q 0,e.av]) f h=f r h:=fun f=>aV c1 f
 rw[pr hop,C148]
 have hpar:∀ s,cZ (ej m fs) e=some s→(∀ t∈s.1,bO t=true)∧bO s.2.1=true:=by
  intro s hs
  unfold cZ at hs
  split at hs
  ·split at hs
   ·rename_i f hf
    cases hs
    have hm:=List.mem_of_find?_eq_some hf
    exact⟨fun t ht=>by obtain⟨z,hz,rfl⟩:=List.mem_map.1 ht;exact K.pars f hm z hz,K.res f hm⟩
   ·cases hs
  ·split at hs
   ·cases hs
   ·rename_i f hf
    split at hs
    ·cases hs
    ·rename_i s' hs'
     split at hs
     ·cases hs
      have hm:=List.mem_of_find?_eq_some (show fs.find? _=some f from hf)
      have hm2:=List.mem_of_find?_eq_some hs'
      exact⟨K.spars f hm s' hm2,K.sres f hm s' hm2⟩
     ·cases hs
 cases hc:cZ (ej m fs) e with
 | none=>
  rw[hc] at c2
  subst c2
  refine⟨?_,fun t n' h3=>by cases h3⟩
  show _=Av.R.ok (AV.tup [ty0.av,.int .i64 12]) (h.set q (aZ m mp n))
  rw[R.same]
  have k2:∀ f:AV→M AV,ae (ai pg 224 [.hp q 0,e.av]) f h=f (.tup [Cs.av,.bool false]) h:=k1
  have z1:aC 5 Cs.av=M.pure Cs.av:=qi Cs
  simp[S148,k2,z1,sg]
  rfl
 | some s=>
  rw[hc] at c2
  obtain⟨nm,rfl⟩:=c2
  obtain⟨hp1,hp2⟩:=hpar s hc
  obtain⟨ps,res,eff⟩:=s
  have z1:aC 5 (Sig.mk nm ps res eff).av=M.pure (Sig.mk nm ps res eff).av:=qi _
  dsimp only
  by_cases hl:ps.length=e.args.length
  ·rw[if_pos hl]
   have hl':((ps.length:Int) != (e.args.length:Int))=false:=by simp[hl]
   obtain⟨g1,g2⟩:=Nx P ls hls hll e.args hlen ha n h R
   cases ht:ef (bF (ej m fs) d ls) e.args n with
   | er b n'=>
    rw[ht] at g1
    have hb:(b != 0)=true:=bne_iff_ne.2 (m6 (gW (ej m fs) d ls) _ n b n' ht)
    have k2:∀ f:AV→M AV,ae (ai pg 149 [.hp q 0,aH ls,cG e.args]) f h=f (.tup [.sl [],.int .i64 b]) (h.set q (aZ m mp n')):=fun f=>aV g1 f
    have e1:ew.bind (ef (bF (ej m fs) d ls) e.args) (fun l=>if pD bW l ps=true then fun n=>Tr.ok res (pi n eff) else ew.er 13) n= .er b n':=by simp only[ew.bind,ht]
    rw[e1]
    refine⟨?_,fun t n' h3=>by cases h3⟩
    show _=Av.R.ok (AV.tup [ty0.av,.int .i64 b]) (h.set q (aZ m mp n'))
    simp[S148,k1,z1,hl,k2,hb,sg]
    rfl
   | ok l n'=>
    rw[ht] at g1
    obtain⟨g3,g4⟩:=g2 l n' ht
    have k2:∀ f:AV→M AV,ae (ai pg 149 [.hp q 0,aH ls,cG e.args]) f h=f (.tup [gn l,.int .i64 0]) (h.set q (aZ m mp n')):=fun f=>aV g1 f
    have hlp:=Fb (R.set n') (Sig.mk nm ps res eff) l g4 hp1 (by rw[g3];exact hl.symm) (by omega) (.int .i64 0) (.sl []) l.length 0 rfl (Nat.zero_le _)
    have hlp':af (L148_0 (ai pg) af) [.hp q 0,.ip [.str nm,gn ps,.int .i64 res.kind,aH res.fields,.int .i64 eff],gn l,.int .i64 l.length,.int .i64 0,.int .i64 0,.sl []] (h.set q (aZ m mp n'))=(if pD bW l ps=true then .ok (.tup [res.av,.int .i64 0]) ((h.set q (aZ m mp n')).set q (aZ m mp (pi n' eff))) else .ok (.tup [ty0.av,.int .i64 13]) (h.set q (aZ m mp n'))):=hlp
    have e1:ew.bind (ef (bF (ej m fs) d ls) e.args) (fun l=>if pD bW l ps=true then fun n=>Tr.ok res (pi n eff) else ew.er 13) n=if pD bW l ps=true then .ok res (pi n' eff) else .er 13 n':=by
     simp only[ew.bind,ht]
     split <;> rfl
    rw[e1]
    constructor
    ·simp[S148,k1,z1,hl,k2]
     rw[hlp',JR.twice]
     split <;> rfl
    ·intro t n'' h3
     split at h3
     ·cases h3;exact fj hp2
     ·cases h3
  ·rw[if_neg hl]
   refine⟨?_,fun t n' h3=>by cases h3⟩
   show _=Av.R.ok (AV.tup [ty0.av,.int .i64 13]) (h.set q (aZ m mp n))
   rw[R.same]
   simp[S148,k1,z1,hl,sg]
   rfl
end Go.Proofs.YtkkabinknmldeaaGreat
