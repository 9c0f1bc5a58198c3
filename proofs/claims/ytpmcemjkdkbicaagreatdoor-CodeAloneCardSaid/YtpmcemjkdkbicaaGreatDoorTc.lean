/- What the functions of the seat compute, part 3: the texts of the claim, one behind the other. Conditions: bounds, as each theorem names them. -/
import Derived.Test.YtpmcemjkdkbicaaGreatDoorTb
import Derived.Test.YtpmcemjkdkbicaaGreatDoorLd
set_option linter.defProp false
set_option linter.unusedSimpArgs false
set_option linter.unusedVariables false
namespace Go.Proofs.YtpmcemjkdkbicaaGreatDoor
open Go Go.Av Go.Av.Ap
set_option maxRecDepth 100000
@[simp] theorem FA28_0(cs:List AV):aa T 28 (.ip cs) 0=some (.ip (cs.drop 0)):=rfl
@[simp] theorem FH28_0(l k:Nat):aa T 28 (.hp l k) 0=some (.hp l (k+0)):=rfl
@[simp] theorem FA28_1(cs:List AV):aa T 28 (.ip cs) 1=some (.ip (cs.drop 1)):=rfl
@[simp] theorem FH28_1(l k:Nat):aa T 28 (.hp l k) 1=some (.hp l (k+1)):=rfl
@[simp] theorem FA28_2(cs:List AV):aa T 28 (.ip cs) 2=some (.ip (cs.drop 2)):=rfl
@[simp] theorem FH28_2(l k:Nat):aa T 28 (.hp l k) 2=some (.hp l (k+2)):=rfl
@[simp] theorem FA28_3(cs:List AV):aa T 28 (.ip cs) 3=some (.ip (cs.drop 3)):=rfl
@[simp] theorem FH28_3(l k:Nat):aa T 28 (.hp l k) 3=some (.hp l (k+3)):=rfl
@[simp] theorem FA40_0(cs:List AV):aa T 40 (.ip cs) 0=some (.ip (cs.drop 0)):=rfl
@[simp] theorem FH40_0(l k:Nat):aa T 40 (.hp l k) 0=some (.hp l (k+0)):=rfl
@[simp] theorem FA40_1(cs:List AV):aa T 40 (.ip cs) 1=some (.ip (cs.drop 1)):=rfl
@[simp] theorem FH40_1(l k:Nat):aa T 40 (.hp l k) 1=some (.hp l (k+1)):=rfl
@[simp] theorem FA40_2(cs:List AV):aa T 40 (.ip cs) 2=some (.ip (cs.drop 2)):=rfl
@[simp] theorem FH40_2(l k:Nat):aa T 40 (.hp l k) 2=some (.hp l (k+2)):=rfl
@[simp] theorem FA42_0(cs:List AV):aa T 42 (.ip cs) 0=some (.ip (cs.drop 0)):=rfl
@[simp] theorem FH42_0(l k:Nat):aa T 42 (.hp l k) 0=some (.hp l (k+0)):=rfl
@[simp] theorem FA42_1(cs:List AV):aa T 42 (.ip cs) 1=some (.ip (cs.drop 1)):=rfl
@[simp] theorem FH42_1(l k:Nat):aa T 42 (.hp l k) 1=some (.hp l (k+1)):=rfl
@[simp] theorem FA42_2(cs:List AV):aa T 42 (.ip cs) 2=some (.ip (cs.drop 2)):=rfl
@[simp] theorem FH42_2(l k:Nat):aa T 42 (.hp l k) 2=some (.hp l (k+2)):=rfl
@[simp] theorem FA42_3(cs:List AV):aa T 42 (.ip cs) 3=some (.ip (cs.drop 3)):=rfl
@[simp] theorem FH42_3(l k:Nat):aa T 42 (.hp l k) 3=some (.hp l (k+3)):=rfl
@[simp] theorem FA42_4(cs:List AV):aa T 42 (.ip cs) 4=some (.ip (cs.drop 4)):=rfl
@[simp] theorem FH42_4(l k:Nat):aa T 42 (.hp l k) 4=some (.hp l (k+4)):=rfl
@[simp] theorem FA42_5(cs:List AV):aa T 42 (.ip cs) 5=some (.ip (cs.drop 5)):=rfl
@[simp] theorem FH42_5(l k:Nat):aa T 42 (.hp l k) 5=some (.hp l (k+5)):=rfl
@[simp] theorem FA42_6(cs:List AV):aa T 42 (.ip cs) 6=some (.ip (cs.drop 6)):=rfl
@[simp] theorem FH42_6(l k:Nat):aa T 42 (.hp l k) 6=some (.hp l (k+6)):=rfl
@[simp] theorem FA55_0(cs:List AV):aa T 55 (.ip cs) 0=some (.ip (cs.drop 0)):=rfl
@[simp] theorem FH55_0(l k:Nat):aa T 55 (.hp l k) 0=some (.hp l (k+0)):=rfl
@[simp] theorem FA55_1(cs:List AV):aa T 55 (.ip cs) 1=some (.ip (cs.drop 1)):=rfl
@[simp] theorem FH55_1(l k:Nat):aa T 55 (.hp l k) 1=some (.hp l (k+1)):=rfl
@[simp] theorem FA57_0(cs:List AV):aa T 57 (.ip cs) 0=some (.ip (cs.drop 0)):=rfl
@[simp] theorem FH57_0(l k:Nat):aa T 57 (.hp l k) 0=some (.hp l (k+0)):=rfl
@[simp] theorem FA57_1(cs:List AV):aa T 57 (.ip cs) 1=some (.ip (cs.drop 1)):=rfl
@[simp] theorem FH57_1(l k:Nat):aa T 57 (.hp l k) 1=some (.hp l (k+1)):=rfl
@[simp] theorem FA57_2(cs:List AV):aa T 57 (.ip cs) 2=some (.ip (cs.drop 2)):=rfl
@[simp] theorem FH57_2(l k:Nat):aa T 57 (.hp l k) 2=some (.hp l (k+2)):=rfl
@[simp] theorem FA57_3(cs:List AV):aa T 57 (.ip cs) 3=some (.ip (cs.drop 3)):=rfl
@[simp] theorem FH57_3(l k:Nat):aa T 57 (.hp l k) 3=some (.hp l (k+3)):=rfl
@[simp] theorem FA57_4(cs:List AV):aa T 57 (.ip cs) 4=some (.ip (cs.drop 4)):=rfl
@[simp] theorem FH57_4(l k:Nat):aa T 57 (.hp l k) 4=some (.hp l (k+4)):=rfl
@[simp] theorem FA57_5(cs:List AV):aa T 57 (.ip cs) 5=some (.ip (cs.drop 5)):=rfl
@[simp] theorem FH57_5(l k:Nat):aa T 57 (.hp l k) 5=some (.hp l (k+5)):=rfl
@[simp] theorem FA59_0(cs:List AV):aa T 59 (.ip cs) 0=some (.ip (cs.drop 0)):=rfl
@[simp] theorem FH59_0(l k:Nat):aa T 59 (.hp l k) 0=some (.hp l (k+0)):=rfl
@[simp] theorem FA59_2(cs:List AV):aa T 59 (.ip cs) 2=some (.ip (cs.drop 2)):=rfl
@[simp] theorem FH59_2(l k:Nat):aa T 59 (.hp l k) 2=some (.hp l (k+2)):=rfl
@[simp] theorem FA59_3(cs:List AV):aa T 59 (.ip cs) 3=some (.ip (cs.drop 3)):=rfl
@[simp] theorem FH59_3(l k:Nat):aa T 59 (.hp l k) 3=some (.hp l (k+3)):=rfl
@[simp] theorem FA59_4(cs:List AV):aa T 59 (.ip cs) 4=some (.ip (cs.drop 5)):=rfl
@[simp] theorem FH59_4(l k:Nat):aa T 59 (.hp l k) 4=some (.hp l (k+5)):=rfl
@[simp] theorem FA59_5(cs:List AV):aa T 59 (.ip cs) 5=some (.ip (cs.drop 6)):=rfl
@[simp] theorem FH59_5(l k:Nat):aa T 59 (.hp l k) 5=some (.hp l (k+6)):=rfl
@[simp] theorem FA67_0(cs:List AV):aa T 67 (.ip cs) 0=some (.ip (cs.drop 0)):=rfl
@[simp] theorem FH67_0(l k:Nat):aa T 67 (.hp l k) 0=some (.hp l (k+0)):=rfl
@[simp] theorem FA67_1(cs:List AV):aa T 67 (.ip cs) 1=some (.ip (cs.drop 1)):=rfl
@[simp] theorem FH67_1(l k:Nat):aa T 67 (.hp l k) 1=some (.hp l (k+1)):=rfl
@[simp] theorem FA67_2(cs:List AV):aa T 67 (.ip cs) 2=some (.ip (cs.drop 2)):=rfl
@[simp] theorem FH67_2(l k:Nat):aa T 67 (.hp l k) 2=some (.hp l (k+2)):=rfl
@[simp] theorem FA67_3(cs:List AV):aa T 67 (.ip cs) 3=some (.ip (cs.drop 3)):=rfl
@[simp] theorem FH67_3(l k:Nat):aa T 67 (.hp l k) 3=some (.hp l (k+3)):=rfl
@[simp] theorem FA67_4(cs:List AV):aa T 67 (.ip cs) 4=some (.ip (cs.drop 4)):=rfl
@[simp] theorem FH67_4(l k:Nat):aa T 67 (.hp l k) 4=some (.hp l (k+4)):=rfl
@[simp] theorem FA71_1(cs:List AV):aa T 71 (.ip cs) 1=some (.ip (cs.drop 1)):=rfl
@[simp] theorem FH71_1(l k:Nat):aa T 71 (.hp l k) 1=some (.hp l (k+1)):=rfl
@[simp] theorem FA93_0(cs:List AV):aa T 93 (.ip cs) 0=some (.ip (cs.drop 0)):=rfl
@[simp] theorem FH93_0(l k:Nat):aa T 93 (.hp l k) 0=some (.hp l (k+0)):=rfl
@[simp] theorem FA93_1(cs:List AV):aa T 93 (.ip cs) 1=some (.ip (cs.drop 1)):=rfl
@[simp] theorem FH93_1(l k:Nat):aa T 93 (.hp l k) 1=some (.hp l (k+1)):=rfl
@[simp] theorem FA93_2(cs:List AV):aa T 93 (.ip cs) 2=some (.ip (cs.drop 2)):=rfl
@[simp] theorem FH93_2(l k:Nat):aa T 93 (.hp l k) 2=some (.hp l (k+2)):=rfl
@[simp] theorem FA95_0(cs:List AV):aa T 95 (.ip cs) 0=some (.ip (cs.drop 0)):=rfl
@[simp] theorem FH95_0(l k:Nat):aa T 95 (.hp l k) 0=some (.hp l (k+0)):=rfl
@[simp] theorem FA95_1(cs:List AV):aa T 95 (.ip cs) 1=some (.ip (cs.drop 1)):=rfl
@[simp] theorem FH95_1(l k:Nat):aa T 95 (.hp l k) 1=some (.hp l (k+1)):=rfl
@[simp] theorem LD3(x:AV)(l:List AV):ah T 3 (.ip (x:: l))=some x:=rfl
@[simp] theorem LD4(x:AV)(l:List AV):ah T 4 (.ip (x:: l))=some x:=rfl
@[simp] theorem LD9(x:AV)(l:List AV):ah T 9 (.ip (x:: l))=some x:=rfl
@[simp] theorem LD26(x:AV)(l:List AV):ah T 26 (.ip (x:: l))=some x:=rfl
@[simp] theorem LD28(cs:List AV):ah T 28 (.ip cs)=if 4<=cs.length then some (.agg (cs.take 4))else none:=rfl
@[simp] theorem LD35(x:AV)(l:List AV):ah T 35 (.ip (x:: l))=some x:=rfl
@[simp] theorem LD36(x:AV)(l:List AV):ah T 36 (.ip (x:: l))=some x:=rfl
@[simp] theorem LD37(x:AV)(l:List AV):ah T 37 (.ip (x:: l))=some x:=rfl
@[simp] theorem LD38(x:AV)(l:List AV):ah T 38 (.ip (x:: l))=some x:=rfl
@[simp] theorem LD42(cs:List AV):ah T 42 (.ip cs)=if 9<=cs.length then some (.agg (cs.take 9))else none:=rfl
@[simp] theorem LD55(cs:List AV):ah T 55 (.ip cs)=if 2<=cs.length then some (.agg (cs.take 2))else none:=rfl
@[simp] theorem LD57(cs:List AV):ah T 57 (.ip cs)=if 6<=cs.length then some (.agg (cs.take 6))else none:=rfl
@[simp] theorem LD59(cs:List AV):ah T 59 (.ip cs)=if 12<=cs.length then some (.agg (cs.take 12))else none:=rfl
@[simp] theorem LD67(cs:List AV):ah T 67 (.ip cs)=if 5<=cs.length then some (.agg (cs.take 5))else none:=rfl
@[simp] theorem LD69(x:AV)(l:List AV):ah T 69 (.ip (x:: l))=some x:=rfl
@[simp] theorem LD95(cs:List AV):ah T 95 (.ip cs)=if 3<=cs.length then some (.agg (cs.take 3))else none:=rfl
@[simp] theorem AW(s:bz):aM T 9 (.str s)=some (.int .i64 s.length):=rfl
@[simp] theorem BG(es:List AV):aM T 22 (.sl es)=some (.int .i64 es.length):=rfl
@[simp] theorem A5:aM T 22 .hn=some (.int .i64 0):=rfl
@[simp] theorem AY(l k n s:Nat)(a:Bool):aM T 22 (.hs l k n s a)=some (.int .i64 n):=rfl
@[simp] theorem BH(es:List AV):aM T 26 (.sl es)=some (.int .i64 es.length):=rfl
@[simp] theorem A6:aM T 26 .hn=some (.int .i64 0):=rfl
@[simp] theorem AZ(l k n s:Nat)(a:Bool):aM T 26 (.hs l k n s a)=some (.int .i64 n):=rfl
@[simp] theorem yT(es:List AV):aM T 35 (.sl es)=some (.int .i64 es.length):=rfl
@[simp] theorem A7:aM T 35 .hn=some (.int .i64 0):=rfl
@[simp] theorem A0(l k n s:Nat)(a:Bool):aM T 35 (.hs l k n s a)=some (.int .i64 n):=rfl
@[simp] theorem iU(l:List bz):aM T 35 (strs l)=some (.int .i64 l.length):=(yT _).trans (by simp)
@[simp] theorem yU(es:List AV):aM T 36 (.sl es)=some (.int .i64 es.length):=rfl
@[simp] theorem A8:aM T 36 .hn=some (.int .i64 0):=rfl
@[simp] theorem A1(l k n s:Nat)(a:Bool):aM T 36 (.hs l k n s a)=some (.int .i64 n):=rfl
@[simp] theorem mJ(l:List c6):aM T 36 (a8 l)=some (.int .i64 l.length):=(yU _).trans (by simp[eT])
@[simp] theorem yV(es:List AV):aM T 37 (.sl es)=some (.int .i64 es.length):=rfl
@[simp] theorem A9:aM T 37 .hn=some (.int .i64 0):=rfl
@[simp] theorem A2(l k n s:Nat)(a:Bool):aM T 37 (.hs l k n s a)=some (.int .i64 n):=rfl
@[simp] theorem sG(l:List Exp):aM T 37 (bD l)=some (.int .i64 l.length):=(yV _).trans (by simp[eQ])
@[simp] theorem yW(es:List AV):aM T 38 (.sl es)=some (.int .i64 es.length):=rfl
@[simp] theorem Ba:aM T 38 .hn=some (.int .i64 0):=rfl
@[simp] theorem A3(l k n s:Nat)(a:Bool):aM T 38 (.hs l k n s a)=some (.int .i64 n):=rfl
@[simp] theorem kf(l:List Fun):aM T 38 (ef l)=some (.int .i64 l.length):=(yW _).trans (by simp)
@[simp] theorem yX(es:List AV):aM T 60 (.sl es)=some (.int .i64 es.length):=rfl
@[simp] theorem Bb:aM T 60 .hn=some (.int .i64 0):=rfl
@[simp] theorem A4(l k n s:Nat)(a:Bool):aM T 60 (.hs l k n s a)=some (.int .i64 n):=rfl
@[simp] theorem AX(l:List Int):aM T 60 (ints l)=some (.int .i64 l.length):=(yX _).trans (by simp)
def sF{l:List bz}{n:Int}(h0:0<=n)(h:n<(l.length:Int)):ak T 35 (strs l) (.int .i64 n)=some (.ip (ab (AV.str l[n.toNat]!))):=cr (T:=T) (t:=35) (e:=9) rfl rfl rfl (fun _=>by first|rfl|(simp;done)|(simp;rfl)) h0 h
def pr{l:List c6}{n:Int}(h0:0<=n)(h:n<(l.length:Int)):ak T 36 (a8 l) (.int .i64 n)=some (.ip (ab (bW l[n.toNat]!))):=by rw[a8,eT];exact cr (T:=T) (t:=36) (e:=95) rfl rfl rfl (fun _=>by first|rfl|(simp;done)|(simp;rfl)) h0 h
def nH{l:List Exp}{n:Int}(h0:0<=n)(h:n<(l.length:Int)):ak T 37 (bD l) (.int .i64 n)=some (.ip (ab (Exp.av l[n.toNat]!))):=by rw[bD,eQ];exact cr (T:=T) (t:=37) (e:=57) rfl rfl rfl (fun _=>by first|rfl|(simp;done)|(simp;rfl)) h0 h
def xg{l:List Fun}{n:Int}(h0:0<=n)(h:n<(l.length:Int)):ak T 38 (ef l) (.int .i64 n)=some (.ip (ab (Fun.av l[n.toNat]!))):=cr (T:=T) (t:=38) (e:=59) rfl rfl rfl (fun _=>by first|rfl|(simp;done)|(simp;rfl)) h0 h
def xe{a b:List bz}(h:(a.length+b.length)*16<=140737488355328):dj T 35 (strs a) (strs b)=some (strs (a++b)):=by
 have:=nN (T:=T) (t:=35) (e:=9) rfl rfl rfl (f:=AV.str) (fun _=>by first|rfl|(simp;done)|(simp;rfl)) (a:=a) (b:=b) h (by decide)
 simpa [strs]using this
@[simp] theorem zC(t:Nat)(a b:Int):ap T .geq t (.int .u8 a) (.int .u8 b)=some (.bool (decide (b<=a))):=rfl
@[simp] theorem zD(t:Nat)(a b:Int):ap T .leq t (.int .u8 a) (.int .u8 b)=some (.bool (decide (a<=b))):=rfl
@[simp] theorem ry(t:Nat)(a b:bz):ap T .leq t (.str a) (.str b)=some (.bool (cN a b||a== b)):=rfl
def vH(f:AV)(F:c6->Bool)(l:List c6)(hb:l.length<=4611686018427387904)(hf:∀x∈l,eO (aj pg) f [bW x]=M.pure (.bool (F x))):∀(n:Nat)(i:Int),l.length-i.toNat=n->0<=i->i<=l.length->
  ai (L100_0 (aj pg) ai) [a8 l,f,.int .i64 l.length,.int .i64 i]=M.pure (.int .i64 (kG F (l.drop i.toNat) i)):=by
 intro n
 induction n with
 |zero=>
  intro i hn hi hl;rw[FL100_0];simp only[L100_0];have h1:¬(i<(l.length:Int)):=by omega
  have h2:l.drop i.toNat=[]:=DI (by omega);simp[h1,h2,kG]
 |succ n ih=>
  intro i hn hi hl;have h1:i<(l.length:Int):=by omega
  have hlt:i.toNat<l.length:=by omega
  have h2:kG F (l.drop i.toNat) i=if F l[i.toNat]=true then i else kG F (l.drop (i.toNat+1)) (i+1):=by rw[Dx hlt];rfl
  have h3:=hf l[i.toNat] (C3 hlt);have h4:=ih (i+1) (by omega) (by omega) (by omega);rw[show (i+1).toNat=i.toNat+1 by omega]at h4;rw[FL100_0];simp only[L100_0];simp (disch:=omega) [h1,bF,pr,h3,h2];cases F l[i.toNat]
  ·simpa using h4
  ·simp
def t100(f:AV)(F:c6->Bool)(l:List c6)(hb:l.length<=4611686018427387904)(hc:∀g,cl g f=f)(hf:∀x∈l,eO (aj pg) f [bW x]=M.pure (.bool (F x))):aj pg 100 [a8 l,f]=M.pure (.int .i64 (kG F l 0)):=by
 rw[C100];simp[S100,hc,vH f F l hb hf l.length 0 rfl (by omega) (by omega)]
def t72(b:UInt8):aj pg 72 [.int .u8 b.toNat]=M.pure (.bool (ka b)):=by
 rw[C72];have e:decide ((b.toNat:Int)<=122)=decide (b.toNat<=122):=DU.2 (by omega);have e2:decide (97<=(b.toNat:Int))=decide (97<=b.toNat):=DU.2 (by omega);simp[S72,ka,e,e2]
def t75(b:UInt8):aj pg 75 [.int .u8 b.toNat]=M.pure (.bool (pO b)):=by
 rw[C75];have e:decide ((b.toNat:Int)<=57)=decide (b.toNat<=57):=DU.2 (by omega);have e2:decide (48<=(b.toNat:Int))=decide (48<=b.toNat):=DU.2 (by omega);simp[S75,pO,e,e2]
def t74(b:UInt8):aj pg 74 [.int .u8 b.toNat]=M.pure (.bool (kl b)):=by
 rw[C74];simp[S74,t72,t75,kl]
theorem wX{s:bz}{i:Nat}(h:i<s.length):dO T 9 (.str s) (.int .i64 (i:Int))=some (.int .u8 (s[i].toNat:Int)):=by
 have e1:dO T 9 (.str s) (.int .i64 (i:Int))=(if(i:Int)<0 then none else s[(i:Int).toNat]?.map fun b=>.int .u8 b.toNat):=rfl;rw[e1,if_neg (by omega),C0,CV h];rfl
def yb(F:UInt8->Bool)(f:AV)(s:bz)(hb:s.length<=4611686018427387904)(hf:∀b:UInt8,eO (aj pg) f [.int .u8 b.toNat]=M.pure (.bool (F b))):∀(n i:Nat),s.length-i=n->i<=s.length->
  ai (L73_0 (aj pg) ai) [.str s,f,.int .i64 i]=M.pure (.int .i64 ((i+((s.drop i).takeWhile F).length:Nat):Int)):=by
 intro n
 induction n with
 |zero=>
  intro i hn hi;rw[FL73_0];simp only[L73_0];have h1:¬((i:Int)<(s.length:Int)):=by omega
  have h2:s.drop i=[]:=DI (by omega);simp[h1,h2]
 | succ n ih=>
  intro i hn hi;have hlt:i<s.length:=by omega
  have h1:(i:Int)<(s.length:Int):=by omega
  have h2:s.drop i=s[i]:: s.drop (i+1):=Dx hlt;have h4:=ih (i+1) (by omega) (by omega);have hw:IntKind.i64.wrap ((i:Int)+1)=((i+1:Nat):Int):=bT (by omega);rw[FL73_0];simp only[L73_0,aS,be,AW,ao,bn,h1,D6,ck,wX hlt,hf,aL,dR,ay,cB,hw,h4,h2,List.takeWhile_cons];cases F s[i]
  ·simp
  ·rw[CJ rfl,CJ rfl];congr 3;simp;omega
def t41(s:bz):aj pg 41 [.str s]=M.pure (.bool (jU s)):=by
 rw[C41];by_cases hs:s=[]
 ·subst hs;simp[S41,jU]
 ·have hs':(s== [])=false:=Eu.2 hs;have hpos:0<s.length:=Ec.2 hs;have h0:=wX (s:=s) (i:=0) hpos;have hd:s[0]=s.headD 0:=by cases s with|nil=>exact absurd rfl hs|cons c s=>rfl
  rw[hd]at h0;simp at h0;by_cases hl:s.length<=20
  ·have h1:=yb kl (.fn (.func 74) [] []) s (by omega) (fun b=>t74 b) s.length 0 (by simp) (by simp);have hsp:aj pg 73 [.str s,.fn (.func 74) [] []]=M.pure (.int .i64 (((s.takeWhile kl).length:Nat):Int)):=by
    rw[C73];simp only[S73,cl,da];rw[show (AV.int .i64 0)=AV.int .i64 ((0:Nat):Int)from rfl,h1];simp
   have e1:decide (20<(s.length:Int))=false:=by rw[Ef];omega
   have e3:decide (20<s.length)=false:=by rw[Ef];omega
   have e4:decide (s.length<=20)=true:=by simpa using hl
   simp[S41,hs',h0,t72,hsp,e1,e3,e4,jU]
  ·have e1:decide (20<(s.length:Int))=true:=by rw[CO];omega
   have e3:decide (20<s.length)=true:=by rw[CO];omega
   have e4:decide (s.length<=20)=false:=by simpa using hl
   simp[S41,hs',h0,t72,e1,e3,e4,jU]
def t42(s:bz):aj pg 42 [.str gD,.str s]=M.pure (.bool (Lib.contains gD s)):=by
 rw[jw aU (E:=fo) rfl];rfl
theorem rx(t:Nat)(a b:bz):ap T .add t (.str a) (.str b)=if a.length+b.length<=4611686018427387904 then some (.str (a++b))else none:=rfl
def t15(s:bz):aj pg 15 [.str s]=M.pure (.bool (bB s)):=by
 rw[C15];have h1:=t41 s;unfold bB;cases hw:jU s with
 |false=>
  rw[hw]at h1;simp[S15,h1]
 |true=>
  have hl:=sD hw;rw[hw]at h1;have h2:=t42 ([32]++s++[32]);unfold gD at h2;have e1:ap T .add 9 (.str [32]) (.str s)=some (.str ([32]++s)):=by rw[rx,CJ (by simp;omega)]
  have e2:ap T .add 9 (.str ([32]++s)) (.str [32])=some (.str ([32]++s++[32])):=by rw[rx,CJ (by simp;omega)]
  simp only[S15,xG,h1,aL,ck,e1,ao,e2,h2,kc,aS,dR,dt,D4];rfl
def vG{t:Ty}(h:t.Lim)(k:Nat)(hk:k<t.fields.length):(t.fields[k]!).2.Lim:=by
 rw[Dc t.fields k hk];exact h.kid (C3 hk)
theorem t64:∀(d:Nat),d<=4->∀(t:Ty),t.Lim->aj pg 64 [t.av,.int .i64 d]=M.pure (.bool (cV d t))
 |0,_,t,_=>by
  rw[C64];simp[S64,cV]
 | d + 1,hd,t,ht=>by
  have ih:=t64 d (by omega);have hlen:=ht.len;have hd1:IntKind.i64.wrap ((((d+1:Nat)):Int)-1)=(d:Int):=gG (by omega);have hloop:=vt (F:=L64_0 (aj pg) ai) (FL64_0 (aj pg)) (fun k=>[.int .i64 ((d+1:Nat):Int),.ip (ab t.av),a8 t.fields,.int .i64 t.fields.length,.int .i64 k]) t.fields.length
   (fun k=>(bB (t.fields[k]!).1&&cV d (t.fields[k]!).2)&&(decide (k=0)||dh (t.fields[k-1]!).1 (t.fields[k]!).1))
   (by simp[L64_0]) (fun k hk=>by
    have h1:(k:Int)<(t.fields.length:Int):=by omega
    have hix:=pr (l:=t.fields) (n:=(k:Int)) (by omega) h1;rw[C0]at hix;have hm:t.fields[k]! ∈t.fields:=by rw[Dc t.fields k hk];exact C3 hk
    have h2:=t15 (t.fields[k]!).1;have h3:=ih (t.fields[k]!).2 (vG ht k hk);have hw:IntKind.i64.wrap ((k:Int)+1)=(k:Int)+1:=by rw[bT (by omega)];simp
    have hd0:IntKind.i64.wrap (d:Int)=(d:Int):=uv (by omega);generalize t.fields[k]! = f at hix h2 h3 hm |-;rcases Ds k with hk0|hk0
    ·subst hk0;have hix0:ak T 36 (a8 t.fields) (.int .i64 0)=some (.ip (ab (bW f))):=hix;have hw0:IntKind.i64.wrap 1=1:=rfl;simp[L64_0,hix0,h2,h3,hw0,hd0,hk];cases bB f.1<;>cases cV d f.2<;>simp
    ·have hp:IntKind.i64.wrap ((k:Int)-1)=((k-1:Nat):Int):=by
      rw[bF (by omega) (by omega)];omega
     have h4:((k-1:Nat):Int)<(t.fields.length:Int):=by omega
     have hix2:=pr (l:=t.fields) (n:=((k-1:Nat):Int)) (by omega) h4;rw[C0]at hix2;generalize t.fields[k-1]! = g at hix2 |-;have hk1:¬k=0:=by omega
     simp[L64_0,h1,hix,h2,h3,hw,hd0,hp,hix2,hk0,hk1,hk];cases bB f.1<;>simp;cases h5:cN f.1 g.1<;>cases cV d f.2<;>by_cases h6:f.1=g.1<;>simp[dh,h5,h6]) 0 (C9 _)
  have hall:((List.range' 0 t.fields.length).all fun k=>(bB (t.fields[k]!).1&&cV d (t.fields[k]!).2)&&(decide (k=0)||dh (t.fields[k-1]!).1 (t.fields[k]!).1))=(t.fields.all (fun f=>bB f.1&&cV d f.2)&&iY (fun a b=>dh a.1 b.1) t.fields):=
   qH (fun f:c6=>bB f.1&&cV d f.2) (fun a b=>dh a.1 b.1) t.fields
  rw[E5,hall]at hloop;rw[C64];have h0:¬((d:Int)+1=0):=by omega
  have hl2:ai (L64_0 (aj pg) ai) [.int .i64 ((d:Int)+1),.ip [.int .i64 t.kind,a8 t.fields],a8 t.fields,.int .i64 t.fields.length,.int .i64 0]=M.pure (.bool (t.fields.all (fun f=>bB f.1&&cV d f.2)&&iY (fun a b=>dh a.1 b.1) t.fields)):=by
   simpa using hloop
  have hR:cV (d+1) t=if((t.kind<0\/3<=t.kind)\/8<(t.fields.length:Int))\/¬t.kind=2/\0<t.fields.length then false else(t.fields.all (fun f=>bB f.1&&cV d f.2)&&iY (fun a b=>dh a.1 b.1) t.fields):=by
   rw[oY];generalize (t.fields.all (fun f=>bB f.1&&cV d f.2)&&iY (fun a b=>dh a.1 b.1) t.fields)=q;generalize t.fields.length=n;generalize t.kind=k;split
   ·rename_i hc;cases q
    ·simp
    ·simp only[Fi,EG,Ef,D9,Eu];rcases hc with((h|h)|h)|h
     ·exact .inl (.inl (.inl (by omega)))
     ·exact .inl (.inl (.inr (by omega)))
     ·exact .inl (.inr (by omega))
     ·exact .inr ⟨h.1,by omega⟩
   ·rename_i hc;have e1:decide (0<=k)=true:=by rw[CO];omega
    have e2:decide (k<3)=true:=by rw[CO];omega
    have e3:decide (n<=8)=true:=by rw[CO];omega
    have e4:(k== 2||n== 0)=true:=by
     rw[DF,Ei,Ei];omega
    rw[e1,e2,e3,e4];simp
  rw[hR];simp[S64,h0,hl2]
def t36(t:Ty)(ht:t.Lim):aj pg 36 [t.av]=M.pure (.bool (eW t)):=by
 rw[C36];have:aj pg 64 [t.av,.int .i64 4]=M.pure (.bool (cV 4 t)):=t64 4 (by omega) t ht;simp[S36,this]
@[simp] theorem xv(t:Nat)(a b:Int):ap T .andNot t (.int .i64 a) (.int .i64 b)=some (.int .i64 (gz a b)):=rfl
def aK{α β:Type}{m:M α}{a:α}{h h':Hp}(e:m h= .ok a h')(f:α->M β):ae m f h=f a h':=by simp only[ae,e]
def fy{h:Hp}{l:Nat}{cs:List AV}(H:h[l]? = some cs):l<h.length:=by
 rcases CW l h.length with h1|h1
 ·exact h1
 ·rw[CP h1]at H;cases H
theorem vA(i:Ins):(ab i.av).length=5:=rfl
def CX(h:Hp)(l:Nat)(c:List Ins)(x:AV):Prop:=(c=[]/\x= .hn)\/(c≠[]/\∃lb,l<lb/\x= .hs lb 0 c.length 5 true/\h[lb]? = some (rowOf Ins.av c))
def CS(h:Hp)(l:Nat)(vars:List c6)(c:eX):Prop:=∃x,h[l]? = some [a8 vars,x,.int .i64 c.2]/\CX h l c.1 x
def jV(l:Nat)(h h':Hp):Prop:=∀i,i<l->h'[i]? = h[i]?
def jV.refl(l:Nat)(h:Hp):jV l h h:=fun _ _=>rfl
def jV.trans{l:Nat}{h h1 h2:Hp}(a:jV l h h1)(b:jV l h1 h2):jV l h h2:=fun i hi=>(b i hi).trans (a i hi)
def jV.set{l k:Nat}{h:Hp}{r:List AV}(hk:l<=k):jV l h (h.set k r):=fun i hi=>by rw[Db,if_neg (by omega)]
def jV.app{l:Nat}{h t:Hp}(hl:l<=h.length):jV l h (h++t):=fun i hi=>by rw[CU (by omega)]
theorem tT(l:Nat):bZ (.hp l 0)=some (.hp l 0):=rfl
theorem fC0(l:Nat):aa T 93 (.hp l 0) 0=some (.hp l 0):=rfl
theorem fC1(l:Nat):aa T 93 (.hp l 0) 1=some (.hp l 1):=rfl
theorem fC2(l:Nat):aa T 93 (.hp l 0) 2=some (.hp l 2):=rfl
def CX.len{h:Hp}{l:Nat}{c:List Ins}{x:AV}(H:CX h l c x):aM T 26 x=some (.int .i64 c.length):=by
 rcases H with⟨rfl,rfl⟩|⟨_,lb,_,rfl,_⟩<;>rfl
def fM{h:Hp}{l:Nat}{a x n:AV}(H:h[l]? = some [a,x,n]):cT T 26 (.hp l 1) h= .ok x h:=qf (T:=T) (t:=26) rfl rfl H rfl
def vE{h:Hp}{l:Nat}{a x n:AV}(H:h[l]? = some [a,x,n]):cT T 36 (.hp l 0) h= .ok a h:=qf (T:=T) (t:=36) rfl rfl H rfl
def tL{h:Hp}{l:Nat}{a x n:AV}(H:h[l]? = some [a,x,n]):cT T 3 (.hp l 2) h= .ok n h:=qf (T:=T) (t:=3) rfl rfl H rfl
theorem t40{h:Hp}{l:Nat}{vars:List c6}{c:eX}(H:CS h l vars c)(i:Ins)(hb:c.1.length<=100000000000):
  ∃h',aj pg 40 [.hp l 0,i.av] h= .ok (.int .i64 c.1.length) h'/\CS h' l vars (dw i c)/\jV l h h':=by
 obtain⟨x,hl,hx⟩:=H;have hlt:=fy hl;have hap:∃h1,appH T 26 false x (.sl [i.av]) h= .ok (.hs h.length 0 (c.1.length+1) 5 true) h1/\h1[h.length]? = some (rowOf Ins.av (c.1++[i]))/\h1[l]? = h[l]? /\jV l h h1/\h.length<h1.length:=by
  have hr:rowOf Ins.av (c.1++[i])=rowOf Ins.av c.1++ab i.av:=by simp[rowOf]
  rcases hx with⟨h1,rfl⟩|⟨h1,lb,hlb,rfl,hq⟩
  ·refine⟨h++[ab i.av],?_,?_,?_,jV.app (by omega),by simp⟩
   ·rw[h1];exact zy (T:=T) (t:=26) (e:=67) rfl rfl rfl (x:=i.av) rfl (by decide) (by decide) (by decide) h
   ·rw[hr,h1,CZ (by omega)];simp[rowOf]
   ·rw[CU hlt]
  ·have hln:=gE (f:=Ins.av) vA c.1;have hok:(rowOf Ins.av c.1).all aW=true:=by
    rw[CY];intro y hy;simp only[rowOf,E0,D2]at hy;obtain⟨_,⟨j,_,rfl⟩,hy⟩:=hy;have:y∈j.cells:=hy;simp only[Ins.cells,C8,List.not_mem_nil,or_false]at this;rcases this with rfl|rfl|rfl|rfl|rfl<;>rfl
   refine⟨(h.set lb [])++[rowOf Ins.av c.1++ab i.av],?_,?_,?_,?_,by simp⟩
   ·exact zA (T:=T) (t:=26) (e:=67) rfl rfl rfl (x:=i.av) rfl (by decide) (by decide) hq hok hln (Ec.2 h1) (by show (c.1.length+1)*72<=_;omega)
   ·rw[hr,CZ (by simp)];simp
   ·rw[CU (by simpa using hlt),Db,if_neg (by omega)]
   ·exact (jV.set (by omega)).trans (jV.app (by simp;omega))
 obtain⟨h1,e1,r1,r2,lo,hlen⟩:=hap;rw[hl]at r2;have st:dI T 26 (.hp l 1) (.hs h.length 0 (c.1.length+1) 5 true) h1= .ok (.tup []) (h1.set l [a8 vars,.hs h.length 0 (c.1.length+1) 5 true,.int .i64 c.2]):=
  nv (T:=T) (t:=26) rfl (v:=.hs h.length 0 (c.1.length+1) 5 true) r2 rfl (show 1+1<=3 by omega) (by decide)
 have hl2:(h1.set l [a8 vars,.hs h.length 0 (c.1.length+1) 5 true,.int .i64 c.2])[l]? = some [a8 vars,.hs h.length 0 (c.1.length+1) 5 true,.int .i64 c.2]:=by
  rw[Db,CJ rfl,CJ (by omega)]
 refine⟨_,?_,⟨_,hl2,.inr ⟨by simp[dw],h.length,by omega,by simp[dw],?_⟩⟩,lo.trans (jV.set (CN _))⟩
 ·have ld0:ah T 67 (.ip (ab i.av))=some i.av:=rfl;have bs:bJ T 26 1 [(0,i.av)]=some (.sl [i.av]):=rfl;have ln:aM T 26 (.hs h.length 0 (c.1.length+1) 5 true)=some (.int .i64 ((c.1.length+1:Nat):Int)):=rfl;have hw:IntKind.i64.wrap (((c.1.length+1:Nat):Int)-1)=c.1.length:=by rw[bF (by omega) (by omega)];omega
  rw[C40];simp only[S40,tT,ao,fC1];rw[aK (fM hl)];simp only[ld0,bs,ao];rw[aK e1,aK st,aK (fM hl2)];simp only[ln,ao,jY,hw];rfl
 ·rw[Db,if_neg (by omega)];exact r1
theorem tP(names:List bz)(s:bz)(hb:names.length<=1000000):∀n:Nat,n<=names.length->
  ai (L67_0 (aj pg) ai) [strs names,.str s,.int .i64 ((n:Int)-1)]=M.pure (.int .i64 (kM names s n))
 |0,_=>by
  rw[FL67_0];simp[L67_0,kM]
 |n+1,h=>by
  have ih:=tP names s hb n (by omega);have hix:=sF (l:=names) (n:=(n:Int)) (by omega) (by omega);have e:(((n+1:Nat):Int)-1)=n:=by omega
  have hw:IntKind.i64.wrap ((n:Int)-1)=n-1:=bF (by omega) (by omega);have hg:names[n]? = some names[n]!:=by rw[Dc names n (by omega)];exact CV (by omega)
  rw[FL67_0,e];simp only[C0]at hix;have hd:decide ((0:Int)<=(n:Int))=true:=ER (by omega);simp only[L67_0,aS,be,mQ,ao,ay,hd,Du,hix];simp only[kM,hg,CG];by_cases hn:names[n]! = s
  ·simp[hn]
  ·simp[hn,hw,ih]
def t67(names:List bz)(s:bz)(hb:names.length<=1000000):aj pg 67 [strs names,.str s]=M.pure (.int .i64 (q3 names s)):=by
 have h:=tP names s hb names.length (CN _);have hw:IntKind.i64.wrap ((names.length:Int)-1)=names.length-1:=bF (by omega) (by omega);rw[C67];simp[S67,hw,h,q3]
def t101(x:c6)(s:bz):aj pg 101 [bW x,.ip (ab (.str s))]=M.pure (.bool (x.1== s)):=by
 rw[C101];simp[S101,cl,da]
def t68{h:Hp}{l:Nat}{vars:List c6}{c:eX}(H:CS h l vars c)(s:bz)(hb:vars.length<=1000000):aj pg 68 [.hp l 0,.str s] h= .ok (.int .i64 (vV vars s)) h:=by
 obtain⟨x,hl,hx⟩:=H;have hi:=t100 (.fn (.func 101) [] [.ip (ab (.str s))]) (fun f=>f.1== s) vars (by omega) (fun g=>by simp[cl,da]) (fun x _=>t101 x s);rw[C68];simp only[S68,tT,ao,fC0];rw[aK (vE hl),hi];rfl
def t59(l:List bz)(h:l.length<=8796093022208):aj pg 59 [strs l]=M.pure (strs l):=by
 have e:aj pg 59 [strs l]=fI T 35 (aj pg) [strs l]:=jw aU rfl _;rw[e];show af (dj T 35 (.sl []) (strs l))=_
 have:=xe (a:=[]) (b:=l) (by simp;omega)
 simp only[DR]at this;show af (dj T 35 (strs []) (strs l))=_;rw[this];rfl
theorem t66(n:Int):aj pg 66 [.int .i64 n]=M.pure (fU n).av:=by
 have hb:aZ T false 57 [(0,.int .i64 1),(1,.int .i64 n)]=some (fU n).av:=rfl;rw[C66];simp[S66,hb]
end Go.Proofs.YtpmcemjkdkbicaaGreatDoor
namespace Go.Proofs.YtpmcemjkdkbicaaGreatDoor
open Go Go.Av Go.Av.Ap
set_option maxRecDepth 100000
def lU{A R c:List AV}{off:Nat}(h:off+c.length<=A.length):setCells (A++R) off c=setCells A off c++R:=by
 unfold setCells;rw[List.take_append_of_le_length (by omega),List.drop_append_of_le_length (by omega)];simp
def lz{A R c:List AV}{o:Nat}:setCells (A++R) (A.length+o) c=A++setCells R o c:=by
 unfold setCells;rw[List.take_length_add_append,Nat.add_assoc,List.drop_length_add_append];simp
theorem iL{α:Type}{f:α->AV}{sz:Nat}(hs:∀x,(ab (f x)).length=sz){y:α}{off:Nat}{c:List AV}(hoff:off+c.length<=sz):∀(l:List α)(k:Nat)(hk:k<l.length),setCells (ab (f l[k])) off c=ab (f y)->setCells (rowOf f l) (k*sz+off) c=rowOf f (l.set k y)
 |x:: l,0,_,h=>by
  rw[dl,Eb,C2,lU (by rw[hs];exact hoff)];simp only[List.getElem_cons_zero]at h;rw[h,List.set_cons_zero,dl]
 |x:: l,k+1,hk,h=>by
  have e:(k+1)*sz+off=(ab (f x)).length+(k*sz+off):=by rw[hs,En];omega
  rw[dl,e,lz,iL hs hoff l k (by simpa using hk) (by simpa using h),List.set_cons_succ,dl]
section
variable (e:Exp)
theorem fE0:aa T 57 (.ip (ab e.av)) 0=some (.ip ((ab e.av).drop 0)):=rfl
theorem fE1:aa T 57 (.ip (ab e.av)) 1=some (.ip ((ab e.av).drop 1)):=rfl
theorem fE2:aa T 57 (.ip (ab e.av)) 2=some (.ip ((ab e.av).drop 2)):=rfl
theorem fE3:aa T 57 (.ip (ab e.av)) 3=some (.ip ((ab e.av).drop 3)):=rfl
theorem fE4:aa T 57 (.ip (ab e.av)) 4=some (.ip ((ab e.av).drop 4)):=rfl
theorem fE5:aa T 57 (.ip (ab e.av)) 5=some (.ip ((ab e.av).drop 5)):=rfl
theorem BQ:ah T 3 (.ip ((ab e.av).drop 0))=some (.int .i64 e.op):=by rw[bj];rfl
theorem Bv:ah T 3 (.ip ((ab e.av).drop 1))=some (.int .i64 e.n):=by rw[bj];rfl
theorem yB:ah T 9 (.ip ((ab e.av).drop 2))=some (.str e.s):=by rw[bj];rfl
theorem B3:ah T 9 (.ip ((ab e.av).drop 3))=some (.str e.m):=by rw[bj];rfl
theorem B4:ah T 35 (.ip ((ab e.av).drop 4))=some (strs e.names):=by rw[bj];rfl
theorem xX:ah T 37 (.ip ((ab e.av).drop 5))=some (bD e.args):=by rw[bj];rfl
theorem tI:ah T 57 (.ip (ab e.av))=some e.av:=by
 have h:ah T 57 (.ip (ab e.av))=if 6<=(ab e.av).length then some (.agg ((ab e.av).take 6))else none:=rfl;rw[h,bj];simp
end
theorem vq(t:Nat)(a b:Int):ap T .eql t (.int .i64 a) (.int .i64 b)=some (.bool (decide (a=b))):=rfl
theorem wP(a:Int):aZ T false 67 [(0,.int .i64 a)]=some (bi a 0).av:=rfl
theorem xr(a n:Int):aZ T false 67 [(0,.int .i64 a),(1,.int .i64 n)]=some (bi a n).av:=rfl
theorem BV(a:Int)(l:List bz):aZ T false 67 [(0,.int .i64 a),(4,strs l)]=some (Ins.mk a 0 [] [] l).av:=rfl
theorem BW(a:Int)(s:bz):aZ T false 67 [(0,.int .i64 a),(2,.str s)]=some (Ins.mk a 0 s [] []).av:=rfl
theorem BX(a n:Int)(s m:bz):aZ T false 67 [(0,.int .i64 a),(2,.str s),(3,.str m),(1,.int .i64 n)]=some (Ins.mk a n s m []).av:=rfl
theorem s6{β:Type}(i:Ins)(f:AV->M β):ae (aA 5 [] i.av) f=f i.av:=rfl
def wY(l:List Exp):aM T 37 (bD l)=some (.int .i64 l.length):=sG l
def t71{h:Hp}{l:Nat}{vars:List c6}{c:eX}(H:CS h l vars c)(hb:vars.length<=1000000)(e:Exp)(hn:e.op=13->e.names.length<=1000000):aj pg 71 [.hp l 0,e.av] h= .ok (jm vars e).av h:=by
 rw[C71];simp only[S71,fE0,BQ,ao,vq,ay,CO];unfold jm;by_cases h3:e.op=3
 ·simp only[CJ h3,wP,ao,s6];rfl
 simp only[if_neg h3];by_cases h4:e.op=4
 ·simp only[CJ h4,wP,ao,s6];rfl
 simp only[if_neg h4];by_cases h5:e.op=5
 ·simp only[CJ h5,wP,ao,s6];rfl
 simp only[if_neg h5];by_cases h6:e.op=6
 ·simp only[CJ h6,wP,ao,s6];rfl
 simp only[if_neg h6];by_cases h7:e.op=7
 ·simp only[CJ h7,wP,ao,s6];rfl
 simp only[if_neg h7];by_cases h10:e.op=10
 ·simp only[CJ h10,wP,ao,s6];rfl
 simp only[if_neg h10];by_cases h13:e.op=13
 ·simp only[CJ h13,fE4,B4,ao,t59 e.names (by have:=hn h13;omega),aL,BV,s6];rfl
 simp only[if_neg h13];by_cases h14:e.op=14
 ·simp only[CJ h14,fE2,yB,ao,BW,s6];rfl
 simp only[if_neg h14];by_cases h15:e.op=15
 ·simp only[CJ h15,fE2,yB,fE3,B3,fE5,xX,wY,ao,BX,s6];rfl
 simp only[if_neg h15];by_cases h16:e.op=16
 ·simp only[CJ h16,fE1,Bv,ao,xr,s6];rfl
 simp only[if_neg h16,fE2,yB,ao];rw[aK (t68 H e.s hb)];simp only[xr,ao,s6];rfl
def yY(vars:List c6)(names:List bz)(em:eX->eX)(e:Exp)(L:Nat):Prop:=∀(c:eX)(h:Hp)(l:Nat),CS h l vars c->c.1.length+L<=100000000000->
 ∃h',aj pg 39 [.hp l 0,e.av,strs names] h= .ok (.tup []) h'/\CS h' l vars (em c)/\jV l h h'
theorem BP{lb n k:Nat}(h:k<n):ak T 26 (.hs lb 0 n 5 true) (.int .i64 (k:Int))=some (.hp lb (0+k*5)):=by
 have e:ak T 26 (.hs lb 0 n 5 true) (.int .i64 (k:Int))=if 0<=(k:Int)/\(k:Int)<(n:Int)then some (.hp lb (0+(k:Int).toNat*5))else none:=rfl;rw[e,CJ (by omega),C0]
theorem fI1(l k:Nat):aa T 67 (.hp l k) 1=some (.hp l (k+1)):=rfl
def tZ{h:Hp}{l:Nat}{vars:List c6}{c:eX}(H:CS h l vars c)(k:Nat)(n:Int)(hk:k<c.1.length):
  ∃lb h',h[l]? = some [a8 vars,.hs lb 0 c.1.length 5 true,.int .i64 c.2]/\dI T 3 (.hp lb (0+k*5+1)) (.int .i64 n) h= .ok (.tup []) h'/\CS h' l vars (iK c.1 k n,c.2)/\jV l h h':=by
 obtain⟨x,hl,hx⟩:=H;rcases hx with⟨h1,rfl⟩|⟨h1,lb,hlb,rfl,hq⟩
 ·rw[h1]at hk;cases hk
 ·have hln:=gE (f:=Ins.av) vA c.1;have hr:setCells (rowOf Ins.av c.1) (k*5+1) [.int .i64 n]=rowOf Ins.av (iK c.1 k n):=by
   unfold iK;rw[Dc c.1 k hk];exact iL vA (by simp) c.1 k hk rfl
  have hlt:=fy hq;refine⟨lb,_,hl,nv (T:=T) (t:=3) rfl (v:=.int .i64 n) hq rfl (show 0+k*5+1+1<=(rowOf Ins.av c.1).length by omega) (by decide),⟨.hs lb 0 c.1.length 5 true,?_,.inr ⟨?_,lb,hlb,?_,?_⟩⟩,jV.set (by omega)⟩
  ·rw[Db,if_neg (by omega)];exact hl
  ·intro e
   have:=gu c.1 k n
   rw[show iK c.1 k n=[]from e]at this;exact h1 (List.length_eq_zero_iff.1 this.symm)
  ·rw[gu]
  ·rw[Db,CJ rfl,CJ hlt,C2];exact CL some hr
def t69{vars:List c6}{names:List bz}{em:Exp->eX->eX}{yes no:Exp}{L1 L2:Nat}(h1:yY vars names (em yes) yes L1)(h2:yY vars names (em no) no L2)(a1:kd (em yes) L1)(a2:kd (em no) L2){c:eX}{h:Hp}{l:Nat}(H:CS h l vars c)(hb:c.1.length+(L1+L2+2)<=100000000000):∃h',aj pg 69 [.hp l 0,yes.av,no.av,strs names] h= .ok (.tup []) h'/\CS h' l vars (eE em yes no c)/\jV l h h':=by
 obtain⟨k1,e1,H1,o1⟩:=t40 H (bi 11 0) (by omega);have g1:=cu (bi 11 0) c;dsimp only[eE];generalize dw (bi 11 0) c=c1 at *;obtain⟨k2,e2,H2,o2⟩:=h1 c1 k1 l H1 (by omega);have g2:=a1 c1;generalize em yes c1=c2 at *;obtain⟨k3,e3,H3,o3⟩:=t40 H2 (bi 10 0) (by omega);have g3:=cu (bi 10 0) c2;generalize dw (bi 10 0) c2=c3 at *;obtain⟨lb,k4,r4,e4,H4,o4⟩:=tZ H3 c.1.length c3.1.length (by omega);have g4:=gu c3.1 c.1.length c3.1.length;obtain⟨k5,e5,H5,o5⟩:=h2 (iK c3.1 c.1.length c3.1.length,c3.2) k4 l H4 (by simp only[g4];omega);have g5:=a2 (iK c3.1 c.1.length c3.1.length,c3.2);generalize em no (iK c3.1 c.1.length c3.1.length,c3.2)=c5 at *;simp only[g4]at g5;obtain⟨lb2,k6,r6,e6,H6,o6⟩:=tZ H5 c2.1.length c5.1.length (by omega);refine⟨k6,?_,H6,(((((o1.trans o2).trans o3).trans o4).trans o5).trans o6)⟩;have ln:∀(b n:Nat),aM T 26 (.hs b 0 n 5 true)=some (.int .i64 n):=fun _ _=>rfl;rw[C69];simp -implicitDefEqProofs only[S69,wP,ao];rw[aK e1];simp -implicitDefEqProofs only[tI,ao];rw[aK e2,aK e3];simp -implicitDefEqProofs only[tT,fC1,ao];rw[aK (fM r4),aK (fM r4)];simp -implicitDefEqProofs only[ln,ao,BP (lb:=lb) (show c.1.length<c3.1.length by omega),fI1];rw[aK e4,aK e5,aK (fM r6),aK (fM r6)];simp -implicitDefEqProofs only[ln,ao,BP (lb:=lb2) (show c2.1.length<c5.1.length by omega),fI1];rw[aK e6];rfl
theorem tQ{vars:List c6}{names:List bz}{em:Exp->eX->eX}{L:Nat}{es:List Exp}(hes:es.length<=1000000){l:Nat}:∀(B A:List Exp)(c:eX)(h:Hp),A++B=es->(∀x∈B,yY vars names (em x) x L)->(∀x∈B,kd (em x) L)->CS h l vars c->c.1.length+B.length*L<=100000000000->
  ∃h',ai (L70_0 (aj pg) ai) [.hp l 0,strs names,bD es,.int .i64 es.length,.int .i64 A.length] h= .ok (.tup []) h'/\CS h' l vars (B.foldl (fun c x=>em x c) c)/\jV l h h'
 |[],A,c,h,e,_,_,H,_=>by
  subst e;refine⟨h,?_,H,jV.refl _ _⟩;have h1:¬((A.length:Int)<((A++[]).length:Int)):=by simp
  rw[FL70_0];simp only[L70_0,aS,be,bn,ao,ay,CO,if_neg h1];rfl
 |x:: B,A,c,h,e,ho,ha,H,hb=>by
  have hlen:A.length+(B.length+1)=es.length:=by rw[<- e];simp
  have h1:(A.length:Int)<(es.length:Int):=by omega
  have hix:=nH (l:=es) (n:=(A.length:Int)) (by omega) h1;have hx:es[A.length]! = x:=by rw[Dc es A.length (by omega)];simp[<- e]
  rw[C0,hx]at hix;have hw:IntKind.i64.wrap ((A.length:Int)+1)=((A++[x]).length:Nat):=by rw[bF (by omega) (by omega)];simp
  simp only[Dj,En]at hb;obtain⟨k1,e1,H1,o1⟩:=ho x (by simp) c h l H (by omega);have g1:=ha x (by simp) c;obtain⟨k2,e2,H2,o2⟩:=tQ hes B (A++[x]) (em x c) k1 (by rw[<- e];simp) (fun y hy=>ho y (by simp[hy])) (fun y hy=>ha y (by simp[hy])) H1 (by omega);refine⟨k2,?_,H2,o1.trans o2⟩;rw[FL70_0];simp only[L70_0,aS,be,bn,ao,ay,CO,CJ h1,hix,tI,pG,aL];rw[aK e1];simp only[cB,ao,hw];exact e2
def t70{vars:List c6}{names:List bz}{em:Exp->eX->eX}{L:Nat}{es:List Exp}(hes:es.length<=1000000)(ho:∀x∈es,yY vars names (em x) x L)(ha:∀x∈es,kd (em x) L){c:eX}{h:Hp}{l:Nat}(H:CS h l vars c)(hb:c.1.length+es.length*L<=100000000000):
  ∃h',aj pg 70 [.hp l 0,bD es,strs names] h= .ok (.tup []) h'/\CS h' l vars (es.foldl (fun c x=>em x c) c)/\jV l h h':=by
 obtain⟨h',e1,H1,o1⟩:=tQ hes es [] c h rfl ho ha H hb;refine⟨h',?_,H1,o1⟩;rw[C70];simp only[S70,wY,ao];exact e1
end Go.Proofs.YtpmcemjkdkbicaaGreatDoor
namespace Go.Proofs.YtpmcemjkdkbicaaGreatDoor
open Go Go.Av Go.Av.Ap
set_option maxRecDepth 100000
def pP{f:FuncId}{args:List AV}{v:AV}(h:aj pg f args=M.pure v):oc (aj pg) f args=M.pure v:=by
 unfold oc;rw[h];cases pg.iso f<;>rfl
def uq(n:Int):eO (oc (aj pg)) (.fn (.func 66) [] []) [.int .i64 n]=M.pure (fU n).av:=pP (t66 n)
section
variable {e:Exp}
theorem vC(h:0<e.args.length):ak T 37 (bD e.args) (.int .i64 0)=some (.ip (ab e.args[0]!.av)):=nH (l:=e.args) (n:=0) (by omega) (by omega)
theorem vD(h:1<e.args.length):ak T 37 (bD e.args) (.int .i64 1)=some (.ip (ab e.args[1]!.av)):=nH (l:=e.args) (n:=1) (by omega) (by omega)
theorem Br(h:2<e.args.length):ak T 37 (bD e.args) (.int .i64 2)=some (.ip (ab e.args[2]!.av)):=nH (l:=e.args) (n:=2) (by omega) (by omega)
end
def jO{n:Nat}(h:1<=n)(t:Int)(ht:t=0\/t=1):bw n (fU t)=true:=by
 obtain⟨m,rfl⟩:∃m,n=m+1:=⟨n-1,by omega⟩;rw[dv];rcases ht with rfl|rfl<;>rfl
def Cj(a b:Int):eC true [.int .i64 a,.int .i64 b]=some (.int .i64 (max a b)):=by
 rw[eC,sg];simp only[CH,eC];congr 2;split<;>omega
theorem g8{α:Type}(a:α):c7 (M.pure a)=M.pure a:=rfl
theorem BI(s:bz):bJ T 35 1 [(0,.str s)]=some (strs [s]):=rfl
theorem t39{vars:List c6}(hv:vars.length<=1000000):∀(n:Nat)(e:Exp),bw n e=true->∀names:List bz,names.length+n<=1000000->yY vars names (bm vars n e names) e (fm n)
 |0,e,h,_,_=>by simp[bw]at h
 | n+1,e,h,names,hn=>by
  have ih:=t39 hv n;have hs:dZ e=true:=by rw[dv,CI]at h;exact h.1
  have hc:=ff hs;have h8:=sN hs;intro c hp l H hb;simp only[fm]at hb;rw[C39];simp -implicitDefEqProofs only[S39,fE0,BQ,ao,vq,ay,CO];unfold bm;by_cases o0:e.op=0
  ·obtain⟨h1,e1,H1,l1⟩:=t40 H (bi 0 e.n) (by omega);refine⟨h1,?_,by rw[CJ o0];exact H1,l1⟩;simp -implicitDefEqProofs only[CJ o0,fE1,Bv,xr,ao];rw[aK e1];rfl
  simp -implicitDefEqProofs only[if_neg o0];by_cases o1:e.op=1
  ·obtain⟨h1,e1,H1,l1⟩:=t40 H (bi 1 e.n) (by omega);refine⟨h1,?_,by rw[CJ o1];exact H1,l1⟩;simp -implicitDefEqProofs only[CJ o1,fE1,Bv,xr,ao];rw[aK e1];rfl
  simp -implicitDefEqProofs only[if_neg o1];by_cases o2:e.op=2
  ·obtain⟨h1,e1,H1,l1⟩:=t40 H (bi 2 (q3 names e.s)) (by omega);refine⟨h1,?_,by rw[CJ o2];exact H1,l1⟩;simp -implicitDefEqProofs only[CJ o2,fE2,yB,ao,t67 names e.s (by omega),aL,xr];rw[aK e1];rfl
  simp -implicitDefEqProofs only[if_neg o2];by_cases o17:e.op=17
  ·obtain⟨h1,e1,H1,l1⟩:=t40 H (bi 16 (vV vars e.s)) (by omega);refine⟨h1,?_,by rw[CJ o17];exact H1,l1⟩;simp -implicitDefEqProofs only[CJ o17,fE2,yB,ao];rw[aK (t68 H e.s hv)];simp -implicitDefEqProofs only[xr,ao];rw[aK e1];rfl
  simp -implicitDefEqProofs only[if_neg o17];by_cases o8:e.op=8
  ·have hl:e.args.length=2:=by omega
   have r0:=bU h (k:=0) (by omega);have r1:=bU h (k:=1) (by omega);have hn1:1<=n:=by obtain⟨m,rfl⟩:=dV r0;omega
   have rt:=jO hn1 0 (.inl rfl);obtain⟨h1,e1,H1,l1⟩:=ih _ r0 names (by omega) c hp l H (by omega);have g1:=bc vars _ _ r0 names c;obtain⟨h2,e2,H2,l2⟩:=t69 (em:=fun x=>bm vars n x names) (ih _ r1 names (by omega)) (ih _ rt names (by omega)) (bc vars _ _ r1 names) (bc vars _ _ rt names) H1 (by omega);refine⟨h2,?_,by rw[CJ o8];exact H2,l1.trans l2⟩;simp -implicitDefEqProofs only[CJ o8,fE5,xX,ao,vC (e:=e) (by omega),tI];rw[aK e1];simp -implicitDefEqProofs only[ao,vD (e:=e) (by omega),tI,uq,aL];rw[aK e2];rfl
  simp -implicitDefEqProofs only[if_neg o8];by_cases o9:e.op=9
  ·have hl:e.args.length=2:=by omega
   have r0:=bU h (k:=0) (by omega);have r1:=bU h (k:=1) (by omega);have hn1:1<=n:=by obtain⟨m,rfl⟩:=dV r0;omega
   have rt:=jO hn1 1 (.inr rfl);obtain⟨h1,e1,H1,l1⟩:=ih _ r0 names (by omega) c hp l H (by omega);have g1:=bc vars _ _ r0 names c;obtain⟨h2,e2,H2,l2⟩:=t69 (em:=fun x=>bm vars n x names) (ih _ rt names (by omega)) (ih _ r1 names (by omega)) (bc vars _ _ rt names) (bc vars _ _ r1 names) H1 (by omega);refine⟨h2,?_,by rw[CJ o9];exact H2,l1.trans l2⟩;simp -implicitDefEqProofs only[CJ o9,fE5,xX,ao,vC (e:=e) (by omega),tI];rw[aK e1];simp -implicitDefEqProofs only[ao,vD (e:=e) (by omega),tI,uq,aL];rw[aK e2];rfl
  simp -implicitDefEqProofs only[if_neg o9];by_cases o11:e.op=11
  ·have hl:e.args.length=3:=by omega
   have r0:=bU h (k:=0) (by omega);have r1:=bU h (k:=1) (by omega);have r2:=bU h (k:=2) (by omega);obtain⟨h1,e1,H1,l1⟩:=ih _ r0 names (by omega) c hp l H (by omega);have g1:=bc vars _ _ r0 names c;obtain⟨h2,e2,H2,l2⟩:=t69 (em:=fun x=>bm vars n x names) (ih _ r1 names (by omega)) (ih _ r2 names (by omega)) (bc vars _ _ r1 names) (bc vars _ _ r2 names) H1 (by omega);refine⟨h2,?_,by rw[CJ o11];exact H2,l1.trans l2⟩;simp -implicitDefEqProofs only[CJ o11,fE5,xX,ao,vC (e:=e) (by omega),tI];rw[aK e1];simp -implicitDefEqProofs only[ao,vD (e:=e) (by omega),Br (e:=e) (by omega),tI];rw[aK e2];rfl
  simp -implicitDefEqProofs only[if_neg o11];by_cases o12:e.op=12
  ·have hl:e.args.length=2:=by omega
   have r0:=bU h (k:=0) (by omega);have r1:=bU h (k:=1) (by omega);obtain⟨h1,e1,H1,l1⟩:=ih _ r0 names (by omega) c hp l H (by omega);have g1:=bc vars _ _ r0 names c;simp -implicitDefEqProofs only[CJ o12];generalize bm vars n e.args[0]! names c=c1 at *;obtain⟨h2,e2,H2,l2⟩:=t40 H1 (bi 3 names.length) (by omega);have g2:=cu (bi 3 names.length) c1;generalize dw (bi 3 names.length) c1=c2 at *;obtain⟨x,hx,cx⟩:=H2;have hlt:=fy hx;have st:dI T 3 (.hp l 2) (.int .i64 (max c2.2 ((names.length:Int)+1))) h2= .ok (.tup []) (h2.set l [a8 vars,x,.int .i64 (max c2.2 ((names.length:Int)+1))]):=
    nv (T:=T) (t:=3) rfl (v:=.int .i64 (max c2.2 ((names.length:Int)+1))) hx rfl (show 2+1<=3 by omega) (by decide)
   have H3:CS (h2.set l [a8 vars,x,.int .i64 (max c2.2 ((names.length:Int)+1))]) l vars (c2.1,max c2.2 ((names.length:Int)+1)):=by
    refine⟨x,by rw[Db,CJ rfl,CJ hlt],?_⟩;rcases cx with cx|⟨z1,lb,z2,z3,z4⟩
    ·exact .inl cx
    ·exact .inr ⟨z1,lb,z2,z3,by rw[Db,if_neg (by omega)];exact z4⟩
   obtain⟨h3,e3,H4,l3⟩:=ih _ r1 (names++[e.s]) (by simp;omega) _ _ l H3 (by simp only;omega);refine⟨h3,?_,H4,((l1.trans l2).trans (jV.set (CN _))).trans l3⟩;have hw:IntKind.i64.wrap ((names.length:Int)+1)=names.length+1:=bF (by omega) (by omega);have hap:dj T 35 (strs names) (strs [e.s])=some (strs (names++[e.s])):=xe (by simp;omega);simp -implicitDefEqProofs only[fE5,xX,ao,vC (e:=e) (by omega),tI];rw[aK e1];simp -implicitDefEqProofs only[ao,iU,xr];rw[aK e2];simp -implicitDefEqProofs only[ao,tT,fC2];rw[aK (tL hx)];simp -implicitDefEqProofs only[ao,iU,cB,hw,Cj];rw[aK st];simp -implicitDefEqProofs only[ao,fE5,xX,vD (e:=e) (by omega),tI,t59 names (by omega),g8,aL,fE2,yB,BI,hap];rw[aK e3];rfl
  simp -implicitDefEqProofs only[if_neg o12];have hm:e.args.length*fm n<=8*fm n:=CR _ h8;obtain⟨h1,e1,H1,l1⟩:=t70 (em:=fun x=>bm vars n x names) (L:=fm n) (es:=e.args) (by omega) (fun x hx=>ih x (dU h hx) names (by omega)) (fun x hx=>bc vars n x (dU h hx) names) H (by omega);have g1:=kD (fun x=>bm vars n x names) (fm n) e.args (fun x hx=>bc vars n x (dU h hx) names) c;dsimp only at g1 H1;generalize e.args.foldl (fun c x=>bm vars n x names c) c=c1 at *;obtain⟨h2,e2,H2,l2⟩:=t40 H1 (jm vars e) (by omega);have hpl:=t71 H1 hv e (fun h13=>by rcases hc with hc|hc|hc|hc|hc|hc|hc|hc|⟨_,k2,_⟩|hc|hc|hc|hc|hc<;>omega);refine⟨h2,?_,H2,l1.trans l2⟩;simp -implicitDefEqProofs only[fE5,xX,ao];rw[aK e1];simp -implicitDefEqProofs only[ao,tI];rw[aK hpl,aK e2];rfl
end Go.Proofs.YtpmcemjkdkbicaaGreatDoor
namespace Go.Proofs.YtpmcemjkdkbicaaGreatDoor
open Go Go.Av Go.Av.Ap
set_option maxRecDepth 100000
theorem tk(k:Int)(es:List Exp):aZ T false 57 [(0,.int .i64 k),(5,bD es)]=some (Exp.mk k 0 [] [] [] es).av:=rfl
def pK(e:Exp):bo 6 e.av=M.pure e.av:=by rw[bN (gm _),bj,dB]
def s7(e:Exp):aA 6 [] e.av=M.pure e.av:=by rw[bA (gm _),bj,dB]
def f6(o n:Int)(s m:bz)(ns:List bz)(es:List Exp):AV.agg [.int .i64 o,.int .i64 n,.str s,.str m,strs ns,bD es]=(Exp.mk o n s m ns es).av:=dB (Exp.mk o n s m ns es)
def BJ(o n:Int)(s m:bz)(es:List Exp):AV.agg [.int .i64 o,.int .i64 n,.str s,.str m,.sl [],bD es]=(Exp.mk o n s m [] es).av:=dB (Exp.mk o n s m [] es)
def qW(e:Exp)(n:Int):aV (M.pure (.tup [e.av,.int .i64 n]))=M.pure (.tup [e.av,.int .i64 n]):=ct fun g=>by simp[cl,da]
def bq(o n:Int)(s m:bz)(ns:List bz)(es:List Exp):ab (Exp.mk o n s m ns es).av=[.int .i64 o,.int .i64 n,.str s,.str m,strs ns,bD es]:=bj _
def t98(e:Exp):aj pg 98 [e.av]=M.pure (.tup [(dN e).1.av,.int .i64 (dN e).2]):=by
 have hc1:∀n:Int,cC (.int .i64 n)=M.pure (.int .i64 n):=fun n=>rfl;have hc2:∀s:bz,cC (.str s)=M.pure (.str s):=fun s=>rfl;have hc3:∀s:List bz,cC (strs s)=M.pure (strs s):=fun s=>rfl;rw[C98];obtain⟨o,n,s,m,ns,es⟩:=e;have ho:o=0\/o=1\/o=2\/o=17\/o=18\/o=14\/o=16\/o=10\/o=12\/o=11\/o=13\/o=15\/(o≠0/\o≠1/\o≠2/\o≠17/\o≠18/\o≠14/\o≠16/\o≠10/\o≠12/\o≠11/\o≠13/\o≠15):=by omega
 rcases ho with rfl|rfl|rfl|rfl|rfl|rfl|rfl|rfl|rfl|rfl|rfl|rfl|⟨h0,h1,h2,h17,h18,h14,h16,h10,h12,h11,h13,h15⟩
 all_goals first
  | (simp[S98,K98_0,K98_1,K98_2,tk,s7,bq,f6,BJ,hc1,hc2,hc3,dN,Exp.op,Exp.n,Exp.s,Exp.m,Exp.names,Exp.args]
     exact qW _ _)
  | (simp[S98,K98_0,K98_1,K98_2,tk,s7,bq,f6,BJ,hc1,hc2,hc3,dN,Exp.op,Exp.n,Exp.s,Exp.m,Exp.names,Exp.args,h0,h1,h2,h17,h18,h14,h16,h10,h12,h11,h13,h15]
     exact qW _ _)
theorem vL(e:Exp)(he:e.Lim):ai (L99_0 (aj pg) ai) [.ip (ab e.av),strs e.names,.int .i64 e.names.length,.int .i64 0]=M.pure (.bool (nc e.names)):=by
 have hlen:=he.names
 have hloop:∀(m i:Nat),e.names.length-i=m->i<=e.names.length->ai (L99_0 (aj pg) ai) [.ip (ab e.av),strs e.names,.int .i64 e.names.length,.int .i64 i]=M.pure (.bool ((List.range' i (e.names.length-i)).all (fun k=>bB e.names[k]! && (decide (k=0)||dh e.names[k-1]! e.names[k]!))&&decide (e.names.length<=8))):=by
  intro m
  induction m with
  |zero=>
   intro i hm hi;rw[FL99_0,hm];have h1:¬((i:Int)<(e.names.length:Int)):=by omega
   have h2:decide ((e.names.length:Int)<=8)=decide (e.names.length<=8):=by rw[DU];omega
   simp[L99_0,h1,h2]
  | succ m ih=>
   intro i hm hi;have hlt:i<e.names.length:=by omega
   have h1:(i:Int)<(e.names.length:Int):=by omega
   have ih':=ih (i+1) (by omega) (by omega);have er:List.range' i (e.names.length-i)=i:: List.range' (i+1) (e.names.length-(i+1)):=by
    rw[show e.names.length-i=(e.names.length-(i+1))+1 by omega,E2]
   have hix:=sF (l:=e.names) (n:=(i:Int)) (by omega) h1;rw[C0]at hix;have hw:IntKind.i64.wrap ((i:Int)+1)=((i+1:Nat):Int):=bT (by omega);have h2:=t15 e.names[i]!;rw[FL99_0,er,DZ];generalize e.names[i]! = s at hix h2 |-;cases hn:bB s with
   |false=>
    rw[hn]at h2;simp[L99_0,h1,hix,h2]
   | true=>
    rw[hn]at h2;rcases Ds i with hk0|hk0
    ·subst hk0;have hix0:ak T 35 (strs e.names) (.int .i64 0)=some (.ip (ab (.str s))):=hix;have hw0:IntKind.i64.wrap 1=1:=rfl;have hlt':0<e.names.length:=hlt;simpa [L99_0,h1,hlt',hix0,h2,hw0]using ih'
    ·have hp:IntKind.i64.wrap ((i:Int)-1)=((i-1:Nat):Int):=by
      rw[bF (by omega) (by omega)];omega
     have h4:((i-1:Nat):Int)<(e.names.length:Int):=by omega
     have hix2:=sF (l:=e.names) (n:=((i-1:Nat):Int)) (by omega) h4;rw[C0]at hix2;generalize e.names[i-1]! = g at hix2 |-;have hk2:0<(i:Int):=by omega
     have hk3:¬i=0:=by omega
     have hle:ap T .leq 9 (.str s) (.str g)=some (.bool (!(dh g s))):=by
      have:ap T .leq 9 (.str s) (.str g)=some (.bool (cN s g||s== g)):=rfl;rw[this];simp[dh]
     cases hs:dh g s with
     |false=>
      rw[hs]at hle;simp[L99_0,h1,hix,h2,hp,hix2,hk0,hk2,hk3,hle,-ry]
     |true=>
      rw[hs]at hle;simpa [L99_0,h1,hix,h2,hp,hix2,hk0,hk2,hk3,hle,hw,-ry]using ih'
 have h:=hloop e.names.length 0 rfl (C9 _);rw[E5,qH]at h;exact h
theorem t99(e:Exp)(he:e.Lim):aj pg 99 [e.av]=M.pure (.bool (dD e)):=by
 rw[C99];have hs:=t15 e.s;have hm:=t15 e.m;have hbn:=vL e he;obtain⟨o,n,s,m,ns,es⟩:=e;simp only[bq,Exp.names]at hbn;simp only[Exp.s,Exp.m]at hs hm;have ho:o=0\/o=1\/o=2\/o=17\/o=18\/o=14\/o=16\/o=12\/o=13\/o=15\/(o≠0/\o≠1/\o≠2/\o≠17/\o≠18/\o≠14/\o≠16/\o≠12/\o≠13/\o≠15):=by omega
 rcases ho with rfl|rfl|rfl|rfl|rfl|rfl|rfl|rfl|rfl|rfl|⟨h0,h1,h2,h17,h18,h14,h16,h12,h13,h15⟩
 ·simp[S99,K99_0,bq,dD,Exp.op,Exp.n,Exp.s,Exp.m,Exp.names,Exp.args];rfl
 ·simp[S99,K99_0,bq,dD,Exp.op,Exp.n,Exp.s,Exp.m,Exp.names,Exp.args]
 ·simp[S99,K99_0,bq,dD,Exp.op,Exp.n,Exp.s,Exp.m,Exp.names,Exp.args,hs]
 ·simp[S99,K99_0,bq,dD,Exp.op,Exp.n,Exp.s,Exp.m,Exp.names,Exp.args,hs]
 ·simp[S99,K99_0,bq,dD,Exp.op,Exp.n,Exp.s,Exp.m,Exp.names,Exp.args,hs]
 ·simp[S99,K99_0,bq,dD,Exp.op,Exp.n,Exp.s,Exp.m,Exp.names,Exp.args,hs]
 ·simp[S99,K99_0,bq,dD,Exp.op,Exp.n,Exp.s,Exp.m,Exp.names,Exp.args]
 ·simp[S99,K99_0,bq,dD,Exp.op,Exp.n,Exp.s,Exp.m,Exp.names,Exp.args,hs]
 ·simp[S99,K99_0,bq,dD,Exp.op,Exp.n,Exp.s,Exp.m,Exp.names,Exp.args,hbn]
 ·have e6:ap T .leq 3 (.int .i64 es.length) (.int .i64 6)=some (.bool (decide (es.length<=6))):=by
   have:ap T .leq 3 (.int .i64 es.length) (.int .i64 6)=some (.bool (decide ((es.length:Int)<=6))):=rfl;rw[this];exact CL (fun b=>some (AV.bool b)) (DU.2 (by omega))
  cases ha:bB s with
  |false=>rw[ha]at hs;simp[S99,K99_0,bq,dD,Exp.op,Exp.n,Exp.s,Exp.m,Exp.names,Exp.args,hs,ha]
  | true=>
   rw[ha]at hs;by_cases hme:m=[]
   ·simp[S99,K99_0,bq,dD,Exp.op,Exp.n,Exp.s,Exp.m,Exp.names,Exp.args,hs,ha,hme,e6,-hQ];try rfl
   ·cases hb:bB m with
    |false=>rw[hb]at hm;simp[S99,K99_0,bq,dD,Exp.op,Exp.n,Exp.s,Exp.m,Exp.names,Exp.args,hs,hm,ha,hb,hme,e6,-hQ];try rfl
    |true=>rw[hb]at hm;simp[S99,K99_0,bq,dD,Exp.op,Exp.n,Exp.s,Exp.m,Exp.names,Exp.args,hs,hm,ha,hb,hme,e6,-hQ];try rfl
 ·simp[S99,K99_0,bq,dD,Exp.op,Exp.n,Exp.s,Exp.m,Exp.names,Exp.args,h0,h1,h2,h17,h18,h14,h16,h12,h13,h15]
theorem t65:∀(d:Nat),d<=100->∀(e:Exp),e.Lim->aj pg 65 [e.av,.int .i64 d]=M.pure (.bool (bw d e))
 |0,_,e,_=>by
  rw[C65];simp[S65,bw]
 | d+1,hd,e,he=>by
  have hlen:=he.len;have hd1:IntKind.i64.wrap (((d+1:Nat):Int)-1)=(d:Int):=gG (by omega);have hloop:∀(m i:Nat),e.args.length-i=m->i<=e.args.length->ai (L65_0 (aj pg) ai) [.int .i64 ((d+1:Nat):Int),bD e.args,.int .i64 e.args.length,.int .i64 i]=M.pure (.bool ((e.args.drop i).all (bw d))):=by
   intro m
   induction m with
   |zero=>
    intro i hm hi;have h1:¬((i:Int)<(e.args.length:Int)):=by omega
    have h2:e.args.drop i=[]:=DI (by omega);rw[FL65_0,h2];simp[L65_0,h1]
   |succ m ih=>
    intro i hm hi;have hlt:i<e.args.length:=by omega
    have h1:(i:Int)<(e.args.length:Int):=by omega
    have h2:e.args.drop i=e.args[i]:: e.args.drop (i+1):=Dx hlt;have hix:=nH (l:=e.args) (n:=(i:Int)) (by omega) h1;rw[C0,Dc e.args i hlt]at hix;have hw:IntKind.i64.wrap ((i:Int)+1)=((i+1:Nat):Int):=bT (by omega);have hb:=t65 d (by omega) e.args[i] (he.kid (C3 hlt));have ih':=ih (i+1) (by omega) (by omega);rw[h2,DZ,FL65_0];generalize e.args[i]=x at hix hb |-;cases hr:bw d x<;>rw[hr]at hb <;>
    simp only[L65_0,aS,be,bn,ao,h1,D6,ay,Du,hix,bj,LD57,Dj,Dk,C2,Nat.reduceAdd,CN,DK,DT,dB,pK,aL,jY,hd1,hb,kc,Ey,DV,C1,Dt,cB,hw,ih',Fh,D4]
  have hx':ai (L65_0 (aj pg) ai) [.int .i64 ((d:Int)+1),bD e.args,.int .i64 e.args.length,.int .i64 0]=M.pure (.bool (e.args.all (bw d))):=hloop e.args.length 0 rfl (C9 _);have hc:=t98 e;have hl:=t99 e he;rw[C65,dv];unfold dZ;generalize (dN e).1=c at hc |-;generalize (dN e).2=n at hc |-;have g1:(((d:Int)+1)== 0)=false:=by rw[Eu];omega
  have x0:ec (.tup [c.av,.int .i64 n]) 0=some c.av:=rfl;have x1:ec (.tup [c.av,.int .i64 n]) 1=some (.int .i64 n):=rfl;have e1:ap T .neq 3 (.int .i64 c.n) (.int .i64 e.n)=some (.bool (!(c.n== e.n))):=rfl;have e2:ap T .neq 9 (.str c.s) (.str e.s)=some (.bool (!(c.s== e.s))):=rfl;have e3:ap T .neq 9 (.str c.m) (.str e.m)=some (.bool (!(c.m== e.m))):=rfl;have e4:ap T .neq 3 (.int .i64 c.names.length) (.int .i64 e.names.length)=some (.bool (!((c.names.length:Int)== (e.names.length:Int)))):=rfl;have e5:ap T .neq 3 (.int .i64 n) (.int .i64 e.args.length)=some (.bool (!(n== (e.args.length:Int)))):=rfl;have e6:ap T .geq 3 (.int .i64 n) (.int .i64 0)=some (.bool (!(decide (n<0)))):=by
   have:ap T .geq 3 (.int .i64 n) (.int .i64 0)=some (.bool (decide (0<=n))):=rfl;rw[this,<- decide_not];exact CL (fun b=>some (AV.bool b)) (DU.2 (by omega))
  have e7:ap T .lss 3 (.int .i64 e.op) (.int .i64 0)=some (.bool (!(decide (0<=e.op)))):=by
   have:ap T .lss 3 (.int .i64 e.op) (.int .i64 0)=some (.bool (decide (e.op<0))):=rfl;rw[this,<- decide_not];exact CL (fun b=>some (AV.bool b)) (DU.2 (by omega))
  have e8:ap T .geq 3 (.int .i64 e.op) (.int .i64 19)=some (.bool (!(decide (e.op<19)))):=by
   have:ap T .geq 3 (.int .i64 e.op) (.int .i64 19)=some (.bool (decide (19<=e.op))):=rfl;rw[this,<- decide_not];exact CL (fun b=>some (AV.bool b)) (DU.2 (by omega))
  generalize (c.n== e.n)=b1 at e1 |-;generalize (c.s== e.s)=b2 at e2 |-;generalize (c.m== e.m)=b3 at e3 |-;generalize ((c.names.length:Int)== (e.names.length:Int))=b4 at e4 |-;generalize (n== (e.args.length:Int))=b5 at e5 |-;generalize decide (n<0)=b6 at e6 |-;generalize decide (0<=e.op)=b7 at e7 |-;generalize decide (e.op<19)=b8 at e8 |-;generalize dD e=bl at hl |-;generalize e.args.all (bw d)=bx at hx' |-;cases b7 with
  |false=>simp[S65,g1,e7,-bn]
  | true=>
   cases b8 with
   |false=>simp[S65,g1,e7,e8,-bn,-mQ]
   |true=>
    cases b6<;>cases b5<;>cases b1<;>cases b2<;>cases b3<;>cases b4<;>cases bl<;>simp[S65,g1,hc,x0,x1,pK,hl,hx',e1,e2,e3,e4,e5,e6,e7,e8,-bn,-mQ,-uK]
def t37(e:Exp)(he:e.Lim):aj pg 37 [e.av]=M.pure (.bool (rn e)):=by
 have hb':aj pg 65 [e.av,.int .i64 12]=M.pure (.bool (bw 12 e)):=t65 12 (by omega) e he;rw[C37];simp[S37,hb']
def setRow(ns:List bz):List AV:=ns.map fun s=>.tup [.str s,.bool true]
theorem xN(a b:bz):sE T 20 9 (.str a) (.str b)=some (a== b):=rfl
theorem jc(s:bz):(ns:List bz)->(i:Nat)->(ns.contains s=false/\eS T 9 (.str s) (setRow ns) i=some none)\/(ns.contains s=true/\∃(j:Nat)(k:AV),eS T 9 (.str s) (setRow ns) i=some (some (j,k,.bool true)))
 |[],i=>.inl ⟨rfl,rfl⟩
 | x:: ns,i=>by
  show (_/\eS T 9 (.str s) (.tup [.str x,.bool true]:: setRow ns) i=_)\/(_/\∃(j:Nat)(k:AV),eS T 9 (.str s) (.tup [.str x,.bool true]:: setRow ns) i=_);unfold eS;rw[xN,List.contains_cons];cases h:s== x with
  |true=>exact .inr ⟨rfl,i,.str x,rfl⟩
  |false=>
   rcases jc s ns (i+1)with⟨h1,h2⟩|⟨h1,j,k,h2⟩
   ·exact .inl ⟨by rw[h1];rfl,h2⟩
   ·exact .inr ⟨by rw[h1];rfl,j,k,h2⟩
theorem kV{h:Hp}{l:Nat}{ns:List bz}(hl:h[l]? = some [.tup (setRow ns)])(s:bz):fw T 88 (.mp l) (.str s) false h= .ok (.bool (ns.contains s)) h:=by
 have e:kS T 88 (setRow ns) (.str s) false=(match eS T 9 (.str s) (setRow ns) 0 with
   |some (some (_,_,v))=>some v
   |some none=>some (.bool false)
   |none=>none):=rfl
 unfold fw ia;simp only[hl];rw[e];rcases jc s ns 0 with⟨h1,h2⟩|⟨h1,j,k,h2⟩
 ·rw[h2,h1]
 ·rw[h2,h1]
theorem nj{h:Hp}{l:Nat}{ns:List bz}(hl:h[l]? = some [.tup (setRow ns)])(s:bz)(hs:ns.contains s=false):lT T 88 (.mp l) (.str s) (.bool true) h= .ok (.tup []) (h.set l [.tup (setRow (ns++[s]))]):=by
 have e:lT T 88 (.mp l) (.str s) (.bool true) h=(match h[l]? with
   |some [.tup es]=>(match sx T 9 es (.str s) (.bool true)with
    |some es'=>.ok (.tup []) (h.set l [.tup es'])
    |none=>.fail)
   |_=>.fail):=rfl
 rw[e,hl];simp only;unfold sx;rcases jc s ns 0 with⟨h1,h2⟩|⟨h1,j,k,h2⟩
 ·rw[h2];simp[setRow]
 ·rw[h1]at hs;cases hs
def eD{α β:Type}{m:M α}{a:α}{h h':Hp}(e:m h= .ok a h')(f:α->M β):ae m f h=f a h':=by simp only[ae,e]
theorem ya(l:List c6)(hb:l.length<=140737488355328)(ht:∀f∈l,f.2.Lim)(most:Int)(q:Nat):∀(n i:Nat),l.length-i=n->i<=l.length->∀(seen:List bz)(h:Hp),h[q]? = some [.tup (setRow seen)]->
  ∃h',ai (L35_0 (aj pg) ai) [a8 l,.int .i64 most,.mp q,a8 l,.int .i64 l.length,.int .i64 i] h= .ok (.bool (oT seen (l.drop i)&&decide ((l.length:Int)<=most))) h':=by
 intro n
 induction n with
 |zero=>
  intro i hn hi seen h hq;rw[FL35_0];have h1:¬((i:Int)<(l.length:Int)):=by omega
  have h2:l.drop i=[]:=DI (by omega);rw[h2];exact⟨h,by simp[L35_0,h1,oT,M.pure]⟩
 | succ n ih=>
  intro i hn hi seen h hq;have hlt:i<l.length:=by omega
  have h1:(i:Int)<(l.length:Int):=by omega
  have h2:l.drop i=l[i]:: l.drop (i+1):=Dx hlt;have hw:IntKind.i64.wrap ((i:Int)+1)=((i+1:Nat):Int):=bT (by omega);have hix:=pr (l:=l) (n:=(i:Int)) (by omega) h1;rw[C0,Dc l i hlt]at hix;have hfl:=ht _ (C3 hlt);have ih':=fun s=>ih (i+1) (by omega) (by omega) (seen++[s]) (h.set q [.tup (setRow (seen++[s]))]);have hql:q<h.length:=(Dw.1 hq).1;rw[h2];generalize l[i]=f at hix hfl |-;have hlk:=kV hq f.1;have hnm:=t15 f.1;have hty:=t36 f.2 hfl;have hcf:bo 3 (bW f)=M.pure (bW f):=by rw[bN (iA f),df,io]
  generalize hcode:ai (L35_0 (aj pg) ai) [a8 l,.int .i64 most,.mp q,a8 l,.int .i64 l.length,.int .i64 i] h=code;rw[FL35_0]at hcode;simp -implicitDefEqProofs only[L35_0,aS,be,bn,ao,h1,D6,ay,Du,hix,df,LD95,Dj,Dk,C2,Nat.reduceAdd,CN,DK,DT,io,hcf,aL,FA95_0,FA95_1,DD,Ed,LD9]at hcode;rw[eD hlk]at hcode;have eo:oT seen (f:: l.drop (i+1))=(!(seen.contains f.1)&&bB f.1&&eW f.2&&oT (seen++[f.1]) (l.drop (i+1))):=rfl;rw[eo];cases hc:seen.contains f.1 with
  |true=>
   rw[hc]at hcode;refine⟨h,?_⟩;rw[<- hcode];simp[M.pure]
  | false=>
   rw[hc]at hcode;cases hn2:bB f.1 with
   |false=>
    rw[hn2]at hnm;refine⟨h,?_⟩;rw[<- hcode];simp[hnm,M.pure]
   | true=>
    rw[hn2]at hnm;cases hr:eW f.2 with
    |false=>
     rw[hr]at hty;refine⟨h,?_⟩;rw[<- hcode];simp[hnm,hty,M.pure]
    |true=>
     rw[hr]at hty;obtain⟨h',e'⟩:=ih' f.1 (by rw[EC hql]);refine⟨h',?_⟩;have hp:=nj hq f.1 hc;rw[<- hcode];simp -implicitDefEqProofs only[hnm,hty,aL,ck,kc,DV,Ey,aS,gt,ay,C1,Dt,LD55,Dj,Dk,C2,Nat.reduceAdd,CN,Du,DK,DT,j0,ao];rw[eD hp];simp only[cB,ao,hw,e',D4]
theorem t35(l:List c6)(hb:l.length<=140737488355328)(ht:∀f∈l,f.2.Lim)(most:Int):aj pg 35 [a8 l,.int .i64 most]=M.pure (.bool (de l most)):=by
 obtain⟨h',e⟩:=ya l hb ht most 0 l.length 0 rfl (C9 _) [] ([]++[[.tup []]]) rfl;rw[DD]at e;rw[C35];funext hp;have key:S35 (aj pg) ai (cl aC (a8 l)) (cl aC (.int .i64 most)) []= .ok (.bool (de l most)) h':=by
  rw[mS,sX];have hn:eF []= .ok (.mp 0) ([]++[[.tup []]]):=rfl;simp -implicitDefEqProofs only[S35];rw[eD hn];simp only[mJ,ao];exact e
 show aV _ hp=R.ok (.bool (de l most)) hp;unfold aV;rw[key];rfl
def t38(l:List Exp)(hb:l.length<=140737488355328)(ht:∀e∈l,e.Lim)(n:Int):aj pg 38 [bD l,.int .i64 n]=M.pure (.bool (l.all rn&&((l.length:Int)== n))):=by
 have hloop:∀(m i:Nat),l.length-i=m->i<=l.length->ai (L38_0 (aj pg) ai) [bD l,.int .i64 n,bD l,.int .i64 l.length,.int .i64 i]=M.pure (.bool ((l.drop i).all rn&&((l.length:Int)== n))):=by
  intro m
  induction m with
  |zero=>
   intro i hm hi;rw[FL38_0];have h1:¬((i:Int)<(l.length:Int)):=by omega
   have h2:l.drop i=[]:=DI (by omega);simp[L38_0,h1,h2]
  |succ m ih=>
   intro i hm hi;have hlt:i<l.length:=by omega
   have h1:(i:Int)<(l.length:Int):=by omega
   have h2:l.drop i=l[i]:: l.drop (i+1):=Dx hlt;have hw:IntKind.i64.wrap ((i:Int)+1)=((i+1:Nat):Int):=bT (by omega);have hix:=nH (l:=l) (n:=(i:Int)) (by omega) h1;rw[C0,Dc l i hlt]at hix;have hr:=t37 l[i] (ht _ (C3 hlt));have ih':=ih (i+1) (by omega) (by omega);rw[h2,DZ,FL38_0];generalize l[i]=e at hix hr |-;cases hb2:rn e<;>rw[hb2]at hr <;>
   simp only[L38_0,aS,be,bn,ao,h1,D6,ay,Du,hix,bj,LD57,Dj,Dk,C2,Nat.reduceAdd,CN,DK,DT,dB,pK,aL,hr,kc,DV,Ey,C1,Dt,cB,hw,ih',D4,Fh]
 have h:=hloop l.length 0 rfl (C9 _);rw[DD]at h;have h':ai (L38_0 (aj pg) ai) [bD l,.int .i64 n,bD l,.int .i64 l.length,.int .i64 0]=M.pure (.bool (l.all rn&&((l.length:Int)== n))):=h;rw[C38];simp[S38,h']
def vj(f:Fun):bo 12 f.av=M.pure f.av:=by rw[bN (gn f),cP,iq]
theorem vI(m:Ap.Mod)(hm:m.Lim)(q:Nat)(R:Bool)(hend:∀h:Hp,∃h',ai (L13_0 (aj pg) ai) [.ip (ab m.av),.mp q,ef m.funcs,.int .i64 m.funcs.length,.int .i64 m.funcs.length] h= .ok (.bool R) h'):∀(n i:Nat),m.funcs.length-i=n->i<=m.funcs.length->∀(seen:List bz)(h:Hp),h[q]? = some [.tup (setRow seen)]->
  ∃h',ai (L13_0 (aj pg) ai) [.ip (ab m.av),.mp q,ef m.funcs,.int .i64 m.funcs.length,.int .i64 i] h= .ok (.bool (iB seen (m.funcs.drop i)&&R)) h':=by
 have hb:=hm.funcs;intro n
 induction n with
 |zero=>
  intro i hn hi seen h hq;have h2:m.funcs.drop i=[]:=DI (by omega);obtain rfl:i=m.funcs.length:=by omega
  rw[h2];exact hend h
 | succ n ih=>
  intro i hn hi seen h hq;have hlt:i<m.funcs.length:=by omega
  have h1:(i:Int)<(m.funcs.length:Int):=by omega
  have h2:m.funcs.drop i=m.funcs[i]:: m.funcs.drop (i+1):=Dx hlt;have hw:IntKind.i64.wrap ((i:Int)+1)=((i+1:Nat):Int):=bT (by omega);have hix:=xg (l:=m.funcs) (n:=(i:Int)) (by omega) h1;rw[C0,Dc m.funcs i hlt]at hix;have hfl:=hm.fns _ (C3 hlt);have ih':=fun s=>ih (i+1) (by omega) (by omega) (seen++[s]) (h.set q [.tup (setRow (seen++[s]))]);have hql:q<h.length:=(Dw.1 hq).1;rw[h2];generalize m.funcs[i]=f at hix hfl |-;have hlk:=kV hq f.name;have hnm:=t15 f.name;have hps:=t35 f.params hfl.params hfl.pty 6;have hty:=t36 f.result hfl.result;have hre:=t37 f.body hfl.body;have hex:ap T .andNot 3 (.int .i64 f.effects) (.int .i64 15)=some (.int .i64 (gz f.effects 15)):=rfl;generalize hcode:ai (L13_0 (aj pg) ai) [.ip (ab m.av),.mp q,ef m.funcs,.int .i64 m.funcs.length,.int .i64 i] h=code;rw[FL13_0]at hcode;simp -implicitDefEqProofs only[L13_0,aS,be,bn,ao,h1,D6,ay,Du,hix,cP,LD59,Dj,Dk,C2,Nat.reduceAdd,CN,DK,DT,iq,vj,aL,FA59_0,DD,LD9]at hcode;rw[eD hlk]at hcode;have eo:iB seen (f:: m.funcs.drop (i+1))=(!(seen.contains f.name)&&p9 f&&iB (seen++[f.name]) (m.funcs.drop (i+1))):=rfl;rw[eo];unfold p9;cases hc:seen.contains f.name with
  |true=>
   rw[hc]at hcode;refine⟨h,?_⟩;rw[<- hcode];simp[M.pure]
  | false=>
   rw[hc]at hcode;cases hn2:bB f.name with
   |false=>rw[hn2]at hnm;refine⟨h,?_⟩;rw[<- hcode];simp[hnm,M.pure]
   | true=>
    rw[hn2]at hnm;cases hp2:de f.params 6 with
    |false=>rw[hp2]at hps;refine⟨h,?_⟩;rw[<- hcode];simp[hnm,hps,M.pure]
    | true=>
     rw[hp2]at hps;cases hr:eW f.result with
     |false=>rw[hr]at hty;refine⟨h,?_⟩;rw[<- hcode];simp[hnm,hps,hty,M.pure]
     | true=>
      rw[hr]at hty;cases hrb:rn f.body with
      |false=>rw[hrb]at hre;refine⟨h,?_⟩;rw[<- hcode];simp[hnm,hps,hty,hre,M.pure]
      | true=>
       rw[hrb]at hre;by_cases he:gz f.effects 15=0
       ·obtain⟨h',e'⟩:=ih' f.name (by rw[EC hql]);refine⟨h',?_⟩;have hp:=nj hq f.name hc;rw[<- hcode];have e'':=e';simp only[cQ]at e'';simp[hnm,hps,hty,hre,hex,he];rw[eD hp];simpa [hw]using e''
       ·refine⟨h,?_⟩;rw[<- hcode];have he':(gz f.effects 15== 0)=false:=Eu.2 he;simp[hnm,hps,hty,hre,hex,he,he',M.pure]
def zK(m:Ap.Mod)(hm:m.Lim)(q:Nat)(h:Hp):∃h',ai (L13_0 (aj pg) ai) [.ip (ab m.av),.mp q,ef m.funcs,.int .i64 m.funcs.length,.int .i64 m.funcs.length] h= .ok (.bool (lq m)) h':=by
 have hnm:=t15 m.name;have hv:=t35 m.vars hm.vars hm.vty 8;have hi:=t38 m.init hm.init hm.ies m.vars.length;have ho:=t35 m.old hm.old hm.oty 8;have hf:=fun n=>t38 m.forward hm.forward hm.fes n;have hb:=t38 m.back hm.back hm.bes m.old.length;refine⟨h,?_⟩;rw[FL13_0];unfold lq;generalize de m.vars 8=b1 at hv |-;generalize (m.init.all rn&&((m.init.length:Int)== (m.vars.length:Int)))=b2 at hi |-;generalize de m.old 8=b3 at ho |-;generalize (m.back.all rn&&((m.back.length:Int)== (m.old.length:Int)))=b4 at hb |-;cases hn:bB m.name with
 |false=>rw[hn]at hnm;simp[L13_0,hnm,M.pure]
 | true =>
  rw[hn]at hnm;by_cases hu:m.uses.length<=12
  ·have hu':¬(12<(m.uses.length:Int)):=by omega
   by_cases hfn:m.funcs.length<=30
   ·have hfn':¬(30<(m.funcs.length:Int)):=by omega
    cases b1 with
    |false=>simp[L13_0,hnm,hu,hu',hfn,hfn',hv,M.pure]
    | true=>
     cases b2 with
     |false=>simp[L13_0,hnm,hu,hu',hfn,hfn',hv,hi,M.pure]
     | true=>
      cases hmv:m.moves with
      |true=>
       have hfv:=hf m.vars.length;rw[CJ rfl];generalize (m.forward.all rn&&((m.forward.length:Int)== (m.vars.length:Int)))=b5 at hfv |-;cases b3<;>cases b5<;>cases b4<;>simp[L13_0,K13_0,hnm,hu,hu',hfn,hfn',hv,hi,ho,hfv,hb,hmv,M.pure]
      | false=>
       have hfv:=hf 0;rw[if_neg (by decide)];generalize (m.forward.all rn&&((m.forward.length:Int)== 0))=b5 at hfv |-;by_cases hz:0<m.old.length
       ·have hz':0<(m.old.length:Int):=by omega
        have hz2:¬m.old.length=0:=by omega
        simp[L13_0,K13_0,hnm,hu,hu',hfn,hfn',hv,hi,hmv,hz,hz',hz2,M.pure]
       ·have hz':¬0<(m.old.length:Int):=by omega
        have hz2:m.old.length=0:=by omega
        have hb0:aj pg 38 [bD m.back,.int .i64 0]=M.pure (.bool b4):=by
         rw[hz2]at hb;exact hb
        cases b3<;>cases b5<;>cases b4<;>simp[L13_0,K13_0,hnm,hu,hu',hfn,hfn',hv,hi,ho,hfv,hb0,hmv,hz,hz',hz2,M.pure]
   ·have hfn':30<(m.funcs.length:Int):=by omega
    simp[L13_0,hnm,hu,hu',hfn,hfn',M.pure]
  ·have hu':12<(m.uses.length:Int):=by omega
   simp[L13_0,hnm,hu,hu',M.pure]
theorem vJ(m:Ap.Mod)(hm:m.Lim)(q:Nat)(R:Bool)(hend:∀h:Hp,∃h',ai (L13_1 (aj pg) ai) [.ip (ab m.av),.mp q,strs m.uses,.int .i64 m.uses.length,.int .i64 m.uses.length] h= .ok (.bool R) h'):∀(n i:Nat),m.uses.length-i=n->i<=m.uses.length->∀(seen:List bz)(h:Hp),h[q]? = some [.tup (setRow seen)]->
  ∃h',ai (L13_1 (aj pg) ai) [.ip (ab m.av),.mp q,strs m.uses,.int .i64 m.uses.length,.int .i64 i] h= .ok (.bool (su seen (m.uses.drop i)&&R)) h':=by
 have hb:=hm.uses;intro n
 induction n with
 |zero=>
  intro i hn hi seen h hq;have h2:m.uses.drop i=[]:=DI (by omega);obtain rfl:i=m.uses.length:=by omega
  rw[h2];exact hend h
 | succ n ih=>
  intro i hn hi seen h hq;have hlt:i<m.uses.length:=by omega
  have h1:(i:Int)<(m.uses.length:Int):=by omega
  have h2:m.uses.drop i=m.uses[i]:: m.uses.drop (i+1):=Dx hlt;have hw:IntKind.i64.wrap ((i:Int)+1)=((i+1:Nat):Int):=bT (by omega);have hix:=sF (l:=m.uses) (n:=(i:Int)) (by omega) h1;rw[C0,Dc m.uses i hlt]at hix;have ih':=fun s=>ih (i+1) (by omega) (by omega) (seen++[s]) (h.set q [.tup (setRow (seen++[s]))]);have hql:q<h.length:=(Dw.1 hq).1;rw[h2];generalize m.uses[i]=s at hix |-;have hlk:=kV hq s;have hnm:=t15 s;generalize hcode:ai (L13_1 (aj pg) ai) [.ip (ab m.av),.mp q,strs m.uses,.int .i64 m.uses.length,.int .i64 i] h=code;rw[FL13_1]at hcode;simp -implicitDefEqProofs only[L13_1,aS,be,bn,ao,h1,D6,ay,Du,hix,pt,LD9]at hcode;rw[eD hlk]at hcode;have eo:su seen (s:: m.uses.drop (i+1))=(!(seen.contains s)&&bB s&&su (seen++[s]) (m.uses.drop (i+1))):=rfl;rw[eo];cases hc:seen.contains s with
  |true=>
   rw[hc]at hcode;refine⟨h,?_⟩;rw[<- hcode];simp[M.pure]
  | false=>
   rw[hc]at hcode;cases hn2:bB s with
   |false=>rw[hn2]at hnm;refine⟨h,?_⟩;rw[<- hcode];simp[hnm,M.pure]
   |true=>
    rw[hn2]at hnm;obtain⟨h',e'⟩:=ih' s (by rw[EC hql]);refine⟨h',?_⟩;have hp:=nj hq s hc;rw[<- hcode];have e'':=e';simp only[cQ]at e'';simp[hnm];rw[eD hp];simpa [hw]using e''
theorem t13(m:Ap.Mod)(hm:m.Lim):aj pg 13 [m.av]=M.pure (.bool (dW m)):=by
 have hend:∀h:Hp,∃h',ai (L13_1 (aj pg) ai) [.ip (ab m.av),.mp 0,strs m.uses,.int .i64 m.uses.length,.int .i64 m.uses.length] h= .ok (.bool (iB [] m.funcs&&lq m)) h':=fun h=>by
  have h1:¬((m.uses.length:Int)<(m.uses.length:Int)):=by omega
  obtain⟨h',e⟩:=vI m hm h.length (lq m) (fun h=>zK m hm _ h) m.funcs.length 0 rfl (C9 _) [] (h++[[.tup []]]) (by simp[setRow]);rw[DD]at e;refine⟨h',?_⟩;rw[FL13_1];have hn:eF h= .ok (.mp h.length) (h++[[.tup []]]):=rfl;simp only[cQ]at e;simp -implicitDefEqProofs only[L13_1,aS,be,bn,ao,h1,EZ,ay,C1,Dt];rw[eD hn];simp only[cQ,FA42_4,Ed,DD,ao,LD38,kf];exact e
 obtain⟨h',e⟩:=vJ m hm 0 _ hend m.uses.length 0 rfl (C9 _) [] ([]++[[.tup []]]) rfl;rw[DD]at e;rw[C13];funext hp;have key:S13 (aj pg) ai (cl aC m.av) []= .ok (.bool (dW m)) h':=by
  have hn:eF []= .ok (.mp 0) ([]++[[.tup []]]):=rfl;simp only[cQ]at e;rw[kq];simp -implicitDefEqProofs only[S13];rw[eD hn];simp only[cQ,FA42_1,Ed,DD,ao,LD35,iU];exact e
 show aV _ hp=R.ok (.bool (dW m)) hp;unfold aV;rw[key];rfl
end Go.Proofs.YtpmcemjkdkbicaaGreatDoor
namespace Go.Proofs.YtpmcemjkdkbicaaGreatDoor
open Go Go.Av Go.Av.Ap
set_option maxRecDepth 100000
section
variable (f:Fun) (m:Ap.Mod)
theorem fF0:aa T 59 (.ip (ab f.av)) 0=some (.ip ((ab f.av).drop 0)):=rfl
theorem fF2:aa T 59 (.ip (ab f.av)) 2=some (.ip ((ab f.av).drop 2)):=rfl
theorem fF5:aa T 59 (.ip (ab f.av)) 5=some (.ip ((ab f.av).drop 6)):=rfl
theorem B5:ah T 9 (.ip ((ab f.av).drop 0))=some (.str f.name):=by rw[cP];rfl
theorem BR:ah T 36 (.ip ((ab f.av).drop 2))=some (a8 f.params):=by rw[cP];rfl
theorem B6:ah T 57 (.ip ((ab f.av).drop 6))=some f.body.av:=by rw[cP];simp
theorem B7:ah T 59 (.ip (ab f.av))=some f.av:=by rw[cP];simp
theorem fM2:aa T 42 (.ip (ab m.av)) 2=some (.ip ((ab m.av).drop 2)):=rfl
theorem fM4:aa T 42 (.ip (ab m.av)) 4=some (.ip ((ab m.av).drop 4)):=rfl
theorem BS:ah T 36 (.ip ((ab m.av).drop 2))=some (a8 m.vars):=rfl
theorem AK:ah T 38 (.ip ((ab m.av).drop 4))=some (ef m.funcs):=rfl
theorem AL:ah T 42 (.ip (ab m.av))=some m.av:=rfl
end
theorem fD0(f:c6):aa T 95 (.ip (ab (bW f))) 0=some (.ip ((ab (bW f)).drop 0)):=rfl
def B1(f:c6):ah T 9 (.ip ((ab (bW f)).drop 0))=some (.str f.1):=by rw[df];rfl
def B2(f:c6):ah T 95 (.ip (ab (bW f)))=some (bW f):=by rw[df];simp
def pf(p:Cod×Nat):AV:=.agg [.str p.1.func,.int .i64 p.1.params,.int .i64 p.1.locals,.hs p.2 0 p.1.code.length 5 true]
theorem tU(b:Bool):gJ UnOp.not (.bool b)=some (.bool (!b)):=rfl
def AU(h:Hp)(acc:List (Cod×Nat)):Prop:=∀p∈acc,h[p.2]? = some (rowOf Ins.av p.1.code)
theorem xa(v6:List AV->M AV)(a0 a1 a2 a3 a5 a6 a7:AV)(ps:List c6)(hb:ps.length<=1000000):∀(B A:List c6),A++B=ps->
  ai (L14_0 (aj pg) ai v6) [a0,a1,a2,a3,strs (A.map (·.1)),a5,a6,a7,a8 ps,.int .i64 ps.length,.int .i64 A.length]=ai (L14_0 (aj pg) ai v6) [a0,a1,a2,a3,strs (ps.map (·.1)),a5,a6,a7,a8 ps,.int .i64 ps.length,.int .i64 ps.length]
 |[],A,e=>by
  rw[EN]at e;subst e;rfl
 | x:: B,A,e=>by
  have hlen:A.length+(B.length+1)=ps.length:=by rw[<- e];simp
  have h1:(A.length:Int)<(ps.length:Int):=by omega
  have hix:=pr (l:=ps) (n:=(A.length:Int)) (by omega) h1;have hx:ps[A.length]! = x:=by rw[Dc ps A.length (by omega)];simp[<- e]
  rw[C0,hx]at hix;have hw:IntKind.i64.wrap ((A.length:Int)+1)=((A++[x]).length:Nat):=by rw[bF (by omega) (by omega)];simp
  have hap:dj T 35 (strs (A.map (·.1))) (strs [x.1])=some (strs ((A++[x]).map (·.1))):=by
   rw[xe (by simp;omega)];simp
  have ih:=xa v6 a0 a1 a2 a3 a5 a6 a7 ps hb B (A++[x]) (by rw[<- e];simp);rw[<- ih,FL14_0];simp -implicitDefEqProofs only[L14_0,aS,be,bn,ao,ay,CO,CJ h1,hix,B2,pH,aL,fD0,B1,BI,hap,cB,hw]
theorem BA(v6:List AV->M AV)(a0 a5 a6:AV){vars:List c6}(hv:vars.length<=1000000){f:Fun}(F:FunOk f){i:Nat}(hi:i<=1000000){acc:List (Cod×Nat)}(ha:acc.length<=1000000){h:Hp}{l:Nat}(H:CS h l vars ([],f.params.length)):
  ∃lb h',l<lb/\h'[lb]? = some (rowOf Ins.av (cL vars f).code)/\jV l h h'/\
   ai (L14_0 (aj pg) ai v6) [a0,.sl (acc.map pf),.ip (ab f.av),.hp l 0,strs (f.params.map (·.1)),a5,a6,.int .i64 i,a8 f.params,.int .i64 f.params.length,.int .i64 f.params.length] h=v6 [a0,.sl ((acc++[(cL vars f,lb)]).map pf),a5,a6,.int .i64 ((i+1:Nat):Int)] h':=by
 have hpl:=F.plen;have hcap:fm 12<=99000000000:=by simp[fm]
 obtain⟨h1,e1,H1,o1⟩:=t39 hv 12 f.body F.body (f.params.map (·.1)) (by simp;omega) ([],f.params.length) h l H (by simp only[Dk];omega);have g1:=bc vars 12 f.body F.body (f.params.map (·.1)) ([],f.params.length);obtain⟨h2,e2,H2,o2⟩:=t40 H1 (bi 18 0) (by simp only[Dk]at g1;omega);obtain⟨x,hx,cx⟩:=H2;have hcode:(dw (bi 18 0) (bm vars 12 f.body (f.params.map (·.1)) ([],f.params.length))).1=(cL vars f).code:=rfl;have hloc:(dw (bi 18 0) (bm vars 12 f.body (f.params.map (·.1)) ([],f.params.length))).2=(cL vars f).locals:=rfl;rw[hcode]at cx;rw[hloc]at hx;rcases cx with⟨z,_⟩|⟨_,lb,hlb,rfl,hq⟩
 ·exact absurd z (by rw[<- hcode];simp[dw])
 ·refine⟨lb,h2,hlb,hq,o1.trans o2,?_⟩;have hn:¬((f.params.length:Int)<(f.params.length:Int)):=by omega
  have hb:aZ T false 28 [(0,.str f.name),(1,.int .i64 f.params.length),(2,.int .i64 (cL vars f).locals),(3,.hs lb 0 (cL vars f).code.length 5 true)]=some (pf (cL vars f,lb)):=rfl;have hbs:∀v:Cod×Nat,bJ T 22 1 [(0,pf v)]=some (.sl ([v].map pf)):=fun _=>rfl;have hap:dj T 22 (.sl (acc.map pf)) (.sl ([(cL vars f,lb)].map pf))=some (.sl ((acc++[(cL vars f,lb)]).map pf)):=
   nN (T:=T) (t:=22) (e:=28) rfl rfl rfl (f:=pf) (fun _=>rfl) (by show (acc.length+1)*56<=_;omega) (by decide)
  have hw:IntKind.i64.wrap ((i:Int)+1)=((i+1:Nat):Int):=by rw[bF (by omega) (by omega)];omega
  rw[FL14_0];simp -implicitDefEqProofs only[L14_0,aS,be,bn,ao,ay,CO,if_neg hn,fF5,B6];rw[aK e1];simp -implicitDefEqProofs only[wP,ao];rw[aK e2];simp -implicitDefEqProofs only[fF0,B5,fF2,BR,mJ,ao,tT,fC1,fC2];rw[aK (tL hx),aK (fM hx)];simp -implicitDefEqProofs only[hb,hbs,hap,ao,cB,hw]
theorem wZ{m:Ap.Mod}(K:ModOk m):∀(B A:List Fun)(acc:List (Cod×Nat))(h:Hp),A++B=m.funcs->acc.map (·.1)=A.map (cL m.vars)->AU h acc->
  ∃acc' h',ai (L14_1 (aj pg) ai) [.ip (ab m.av),.sl (acc.map pf),ef m.funcs,.int .i64 m.funcs.length,.int .i64 A.length] h= .ok (.sl (acc'.map pf)) h'/\acc'.map (·.1)=m.funcs.map (cL m.vars)/\AU h' acc'
 |[],A,acc,h,e,ha,H=>by
  rw[EN]at e;subst e;refine⟨acc,h,?_,ha,H⟩;have h1:¬((m.funcs.length:Int)<(m.funcs.length:Int)):=by omega
  rw[FL14_1];simp -implicitDefEqProofs only[L14_1,aS,be,bn,ao,ay,CO,if_neg h1];rfl
 | x:: B,A,acc,h,e,ha,H=>by
  have hlen:A.length+(B.length+1)=m.funcs.length:=by rw[<- e];simp
  have hf30:=K.flen;have hvl:=K.vlen;have h1:(A.length:Int)<(m.funcs.length:Int):=by omega
  have hix:=xg (l:=m.funcs) (n:=(A.length:Int)) (by omega) h1;have hx:m.funcs[A.length]! = x:=by rw[Dc m.funcs A.length (by omega)];simp[<- e]
  rw[C0,hx]at hix;have F:=K.fns x (by rw[<- e];simp);have hpl:=F.plen;have hal:acc.length=A.length:=by have:=CL List.length ha;simpa using this
  have hC:CS (h++[[a8 m.vars,.hn,.int .i64 x.params.length]]) h.length m.vars ([],x.params.length):=⟨.hn,by rw[CZ (CN _)];simp,.inl ⟨rfl,rfl⟩⟩;obtain⟨lb,h2,hlb,hq,hlo,e2⟩:=BA (ai (L14_1 (aj pg) ai)) (.ip (ab m.av)) (ef m.funcs) (.int .i64 m.funcs.length) (by omega) F (i:=A.length) (by omega) (acc:=acc) (by omega) hC;obtain⟨acc',h3,e3,r3,H3⟩:=wZ K B (A++[x]) (acc++[(cL m.vars x,lb)]) h2 (by rw[<- e];simp) (by rw[Fc,Fc,ha];rfl) (by
   intro p hp;rcases Da.1 hp with hp|hp
   ·have:=H p hp
    have hl:=fy this;rw[hlo p.2 hl,CU hl];exact this
   ·rw[D1]at hp;subst hp;exact hq)
  refine⟨acc',h3,?_,r3,H3⟩;have hbv:aZ T true 93 [(0,a8 m.vars),(2,.int .i64 x.params.length)]=some (.agg [a8 m.vars,.hn,.int .i64 x.params.length]):=rfl;have hnw:newH (ab (.agg [a8 m.vars,.hn,.int .i64 x.params.length])) h= .ok (.hp h.length 0) (h++[[a8 m.vars,.hn,.int .i64 x.params.length]]):=rfl;have hP:=xa (ai (L14_1 (aj pg) ai)) (.ip (ab m.av)) (.sl (acc.map pf)) (.ip (ab x.av)) (.hp h.length 0) (ef m.funcs) (.int .i64 m.funcs.length) (.int .i64 A.length) x.params (by omega) x.params [] rfl;rw[FL14_1];simp -implicitDefEqProofs only[L14_1,aS,be,bn,ao,ay,CO,CJ h1,hix,B7,pI,aL,fM2,BS,fF2,BR,mJ,hbv];rw[aK hnw];show ai (L14_0 (aj pg) ai (ai (L14_1 (aj pg) ai))) [.ip (ab m.av),.sl (acc.map pf),.ip (ab x.av),.hp h.length 0,strs (([]:List c6).map (·.1)),ef m.funcs,.int .i64 m.funcs.length,.int .i64 A.length,a8 x.params,.int .i64 x.params.length,.int .i64 ([]:List c6).length] _=_;rw[hP,e2];have e4:((A++[x]).length:Nat)=A.length+1:=by simp
  rw[e4]at e3;exact e3
def rW{h:Hp}(acc:List (Cod×Nat))(H:AU h acc):hM 6 h (.sl (acc.map pf))=eq (acc.map (·.1)):=by
 have key:∀p∈acc,hM 6 h (pf p)=p.1.av:=by
  intro p hp;have hi:=rX (f:=Ins.av) vA (fun _=>rfl) (fun x g=>by simp[Ins.av,Ins.cells,cl,da]) (by decide) (H p hp) 5;unfold hM at hi |-;simp only[cl]at hi;simp only[pf,cl,da,hi];rfl
 unfold hM at key |-;simp only[cl];unfold eq;congr 1;clear H
 induction acc with
 |nil=>rfl
 |cons p acc ih=>
  simp only[Dp,da];rw[key p (by simp),ih fun q hq=>key q (by simp[hq])]
def t14(m:Ap.Mod)(hm:m.Lim):aj pg 14 [m.av]=M.pure (eq (if dW m=true then m.funcs.map (cL m.vars)else[])):=by
 rw[C14];cases hr:dW m with
 | false=>
  have hS:S14 (aj pg) ai (cl aC m.av)=M.pure (.sl []):=by
   rw[kq];simp -implicitDefEqProofs only[S14,AL,ao,t13 m hm,hr,aL,tU,Ey,ay,Du]
  rw[hS];rfl
 | true=>
  have K:=tS hr;obtain⟨acc,h',e1,r1,H1⟩:=wZ K m.funcs [] [] [] rfl rfl (fun p hp=>by cases hp);have hS:S14 (aj pg) ai (cl aC m.av) []= .ok (.sl (acc.map pf)) h':=by
   rw[kq];simp -implicitDefEqProofs only[S14,AL,ao,t13 m hm,hr,aL,tU,DV,ay,C1,Dt,fM4,AK,kf];exact e1
  funext h;unfold aV;rw[hS];simp only[rW acc H1,r1,Du];rfl
end Go.Proofs.YtpmcemjkdkbicaaGreatDoor
