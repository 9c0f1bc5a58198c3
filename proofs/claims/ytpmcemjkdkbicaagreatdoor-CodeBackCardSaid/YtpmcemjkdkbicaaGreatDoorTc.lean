/- What the functions of the seat compute, part 3: the texts of the claim, one behind the other. Conditions: bounds, as each theorem names them. -/
import Derived.Test.YtpmcemjkdkbicaaGreatDoorTb
import Derived.Test.YtpmcemjkdkbicaaGreatDoorLd
set_option linter.defProp false
set_option linter.unusedSimpArgs false
set_option linter.unusedVariables false
namespace Go.Proofs.YtpmcemjkdkbicaaGreatDoor
open Go Go.Av Go.Av.Ap
set_option maxRecDepth 100000
@[simp] theorem FA28_0(cs:List AV):aa T 28 (.ip cs) 0=some (.ip (cs.drop 0)):=rfl
@[simp] theorem FH28_0(l k:Nat):aa T 28 (.hp l k) 0=some (.hp l (k+0)):=rfl
@[simp] theorem FA28_1(cs:List AV):aa T 28 (.ip cs) 1=some (.ip (cs.drop 1)):=rfl
@[simp] theorem FH28_1(l k:Nat):aa T 28 (.hp l k) 1=some (.hp l (k+1)):=rfl
@[simp] theorem FA28_2(cs:List AV):aa T 28 (.ip cs) 2=some (.ip (cs.drop 2)):=rfl
@[simp] theorem FH28_2(l k:Nat):aa T 28 (.hp l k) 2=some (.hp l (k+2)):=rfl
@[simp] theorem FA28_3(cs:List AV):aa T 28 (.ip cs) 3=some (.ip (cs.drop 3)):=rfl
@[simp] theorem FH28_3(l k:Nat):aa T 28 (.hp l k) 3=some (.hp l (k+3)):=rfl
@[simp] theorem FA40_0(cs:List AV):aa T 40 (.ip cs) 0=some (.ip (cs.drop 0)):=rfl
@[simp] theorem FH40_0(l k:Nat):aa T 40 (.hp l k) 0=some (.hp l (k+0)):=rfl
@[simp] theorem FA40_1(cs:List AV):aa T 40 (.ip cs) 1=some (.ip (cs.drop 1)):=rfl
@[simp] theorem FH40_1(l k:Nat):aa T 40 (.hp l k) 1=some (.hp l (k+1)):=rfl
@[simp] theorem FA40_2(cs:List AV):aa T 40 (.ip cs) 2=some (.ip (cs.drop 2)):=rfl
@[simp] theorem FH40_2(l k:Nat):aa T 40 (.hp l k) 2=some (.hp l (k+2)):=rfl
@[simp] theorem FA42_0(cs:List AV):aa T 42 (.ip cs) 0=some (.ip (cs.drop 0)):=rfl
@[simp] theorem FH42_0(l k:Nat):aa T 42 (.hp l k) 0=some (.hp l (k+0)):=rfl
@[simp] theorem FA42_1(cs:List AV):aa T 42 (.ip cs) 1=some (.ip (cs.drop 1)):=rfl
@[simp] theorem FH42_1(l k:Nat):aa T 42 (.hp l k) 1=some (.hp l (k+1)):=rfl
@[simp] theorem FA42_2(cs:List AV):aa T 42 (.ip cs) 2=some (.ip (cs.drop 2)):=rfl
@[simp] theorem FH42_2(l k:Nat):aa T 42 (.hp l k) 2=some (.hp l (k+2)):=rfl
@[simp] theorem FA42_3(cs:List AV):aa T 42 (.ip cs) 3=some (.ip (cs.drop 3)):=rfl
@[simp] theorem FH42_3(l k:Nat):aa T 42 (.hp l k) 3=some (.hp l (k+3)):=rfl
@[simp] theorem FA42_4(cs:List AV):aa T 42 (.ip cs) 4=some (.ip (cs.drop 4)):=rfl
@[simp] theorem FH42_4(l k:Nat):aa T 42 (.hp l k) 4=some (.hp l (k+4)):=rfl
@[simp] theorem FA42_5(cs:List AV):aa T 42 (.ip cs) 5=some (.ip (cs.drop 5)):=rfl
@[simp] theorem FH42_5(l k:Nat):aa T 42 (.hp l k) 5=some (.hp l (k+5)):=rfl
@[simp] theorem FA42_6(cs:List AV):aa T 42 (.ip cs) 6=some (.ip (cs.drop 6)):=rfl
@[simp] theorem FH42_6(l k:Nat):aa T 42 (.hp l k) 6=some (.hp l (k+6)):=rfl
@[simp] theorem FA55_0(cs:List AV):aa T 55 (.ip cs) 0=some (.ip (cs.drop 0)):=rfl
@[simp] theorem FH55_0(l k:Nat):aa T 55 (.hp l k) 0=some (.hp l (k+0)):=rfl
@[simp] theorem FA55_1(cs:List AV):aa T 55 (.ip cs) 1=some (.ip (cs.drop 1)):=rfl
@[simp] theorem FH55_1(l k:Nat):aa T 55 (.hp l k) 1=some (.hp l (k+1)):=rfl
@[simp] theorem FA57_0(cs:List AV):aa T 57 (.ip cs) 0=some (.ip (cs.drop 0)):=rfl
@[simp] theorem FH57_0(l k:Nat):aa T 57 (.hp l k) 0=some (.hp l (k+0)):=rfl
@[simp] theorem FA57_1(cs:List AV):aa T 57 (.ip cs) 1=some (.ip (cs.drop 1)):=rfl
@[simp] theorem FH57_1(l k:Nat):aa T 57 (.hp l k) 1=some (.hp l (k+1)):=rfl
@[simp] theorem FA57_2(cs:List AV):aa T 57 (.ip cs) 2=some (.ip (cs.drop 2)):=rfl
@[simp] theorem FH57_2(l k:Nat):aa T 57 (.hp l k) 2=some (.hp l (k+2)):=rfl
@[simp] theorem FA57_3(cs:List AV):aa T 57 (.ip cs) 3=some (.ip (cs.drop 3)):=rfl
@[simp] theorem FH57_3(l k:Nat):aa T 57 (.hp l k) 3=some (.hp l (k+3)):=rfl
@[simp] theorem FA57_4(cs:List AV):aa T 57 (.ip cs) 4=some (.ip (cs.drop 4)):=rfl
@[simp] theorem FH57_4(l k:Nat):aa T 57 (.hp l k) 4=some (.hp l (k+4)):=rfl
@[simp] theorem FA57_5(cs:List AV):aa T 57 (.ip cs) 5=some (.ip (cs.drop 5)):=rfl
@[simp] theorem FH57_5(l k:Nat):aa T 57 (.hp l k) 5=some (.hp l (k+5)):=rfl
@[simp] theorem FA59_0(cs:List AV):aa T 59 (.ip cs) 0=some (.ip (cs.drop 0)):=rfl
@[simp] theorem FH59_0(l k:Nat):aa T 59 (.hp l k) 0=some (.hp l (k+0)):=rfl
@[simp] theorem FA59_2(cs:List AV):aa T 59 (.ip cs) 2=some (.ip (cs.drop 2)):=rfl
@[simp] theorem FH59_2(l k:Nat):aa T 59 (.hp l k) 2=some (.hp l (k+2)):=rfl
@[simp] theorem FA59_3(cs:List AV):aa T 59 (.ip cs) 3=some (.ip (cs.drop 3)):=rfl
@[simp] theorem FH59_3(l k:Nat):aa T 59 (.hp l k) 3=some (.hp l (k+3)):=rfl
@[simp] theorem FA59_4(cs:List AV):aa T 59 (.ip cs) 4=some (.ip (cs.drop 5)):=rfl
@[simp] theorem FH59_4(l k:Nat):aa T 59 (.hp l k) 4=some (.hp l (k+5)):=rfl
@[simp] theorem FA59_5(cs:List AV):aa T 59 (.ip cs) 5=some (.ip (cs.drop 6)):=rfl
@[simp] theorem FH59_5(l k:Nat):aa T 59 (.hp l k) 5=some (.hp l (k+6)):=rfl
@[simp] theorem FA67_0(cs:List AV):aa T 67 (.ip cs) 0=some (.ip (cs.drop 0)):=rfl
@[simp] theorem FH67_0(l k:Nat):aa T 67 (.hp l k) 0=some (.hp l (k+0)):=rfl
@[simp] theorem FA67_1(cs:List AV):aa T 67 (.ip cs) 1=some (.ip (cs.drop 1)):=rfl
@[simp] theorem FH67_1(l k:Nat):aa T 67 (.hp l k) 1=some (.hp l (k+1)):=rfl
@[simp] theorem FA67_2(cs:List AV):aa T 67 (.ip cs) 2=some (.ip (cs.drop 2)):=rfl
@[simp] theorem FH67_2(l k:Nat):aa T 67 (.hp l k) 2=some (.hp l (k+2)):=rfl
@[simp] theorem FA67_3(cs:List AV):aa T 67 (.ip cs) 3=some (.ip (cs.drop 3)):=rfl
@[simp] theorem FH67_3(l k:Nat):aa T 67 (.hp l k) 3=some (.hp l (k+3)):=rfl
@[simp] theorem FA67_4(cs:List AV):aa T 67 (.ip cs) 4=some (.ip (cs.drop 4)):=rfl
@[simp] theorem FH67_4(l k:Nat):aa T 67 (.hp l k) 4=some (.hp l (k+4)):=rfl
@[simp] theorem FA71_1(cs:List AV):aa T 71 (.ip cs) 1=some (.ip (cs.drop 1)):=rfl
@[simp] theorem FH71_1(l k:Nat):aa T 71 (.hp l k) 1=some (.hp l (k+1)):=rfl
@[simp] theorem FA93_0(cs:List AV):aa T 93 (.ip cs) 0=some (.ip (cs.drop 0)):=rfl
@[simp] theorem FH93_0(l k:Nat):aa T 93 (.hp l k) 0=some (.hp l (k+0)):=rfl
@[simp] theorem FA93_1(cs:List AV):aa T 93 (.ip cs) 1=some (.ip (cs.drop 1)):=rfl
@[simp] theorem FH93_1(l k:Nat):aa T 93 (.hp l k) 1=some (.hp l (k+1)):=rfl
@[simp] theorem FA93_2(cs:List AV):aa T 93 (.ip cs) 2=some (.ip (cs.drop 2)):=rfl
@[simp] theorem FH93_2(l k:Nat):aa T 93 (.hp l k) 2=some (.hp l (k+2)):=rfl
@[simp] theorem FA95_0(cs:List AV):aa T 95 (.ip cs) 0=some (.ip (cs.drop 0)):=rfl
@[simp] theorem FH95_0(l k:Nat):aa T 95 (.hp l k) 0=some (.hp l (k+0)):=rfl
@[simp] theorem FA95_1(cs:List AV):aa T 95 (.ip cs) 1=some (.ip (cs.drop 1)):=rfl
@[simp] theorem FH95_1(l k:Nat):aa T 95 (.hp l k) 1=some (.hp l (k+1)):=rfl
@[simp] theorem LD3(x:AV)(l:List AV):ap T 3 (.ip (x:: l))=some x:=rfl
@[simp] theorem LD4(x:AV)(l:List AV):ap T 4 (.ip (x:: l))=some x:=rfl
@[simp] theorem LD9(x:AV)(l:List AV):ap T 9 (.ip (x:: l))=some x:=rfl
@[simp] theorem LD26(x:AV)(l:List AV):ap T 26 (.ip (x:: l))=some x:=rfl
@[simp] theorem LD28(cs:List AV):ap T 28 (.ip cs)=if 4<=cs.length then some (.agg (cs.take 4))else none:=rfl
@[simp] theorem LD35(x:AV)(l:List AV):ap T 35 (.ip (x:: l))=some x:=rfl
@[simp] theorem LD36(x:AV)(l:List AV):ap T 36 (.ip (x:: l))=some x:=rfl
@[simp] theorem LD37(x:AV)(l:List AV):ap T 37 (.ip (x:: l))=some x:=rfl
@[simp] theorem LD38(x:AV)(l:List AV):ap T 38 (.ip (x:: l))=some x:=rfl
@[simp] theorem LD42(cs:List AV):ap T 42 (.ip cs)=if 9<=cs.length then some (.agg (cs.take 9))else none:=rfl
@[simp] theorem LD55(cs:List AV):ap T 55 (.ip cs)=if 2<=cs.length then some (.agg (cs.take 2))else none:=rfl
@[simp] theorem LD57(cs:List AV):ap T 57 (.ip cs)=if 6<=cs.length then some (.agg (cs.take 6))else none:=rfl
@[simp] theorem LD59(cs:List AV):ap T 59 (.ip cs)=if 12<=cs.length then some (.agg (cs.take 12))else none:=rfl
@[simp] theorem LD67(cs:List AV):ap T 67 (.ip cs)=if 5<=cs.length then some (.agg (cs.take 5))else none:=rfl
@[simp] theorem LD69(x:AV)(l:List AV):ap T 69 (.ip (x:: l))=some x:=rfl
@[simp] theorem LD95(cs:List AV):ap T 95 (.ip cs)=if 3<=cs.length then some (.agg (cs.take 3))else none:=rfl
@[simp] theorem Bq(s:aS):aM T 9 (.str s)=some (.int .i64 s.length):=rfl
@[simp] theorem Ce(es:List AV):aM T 22 (.sl es)=some (.int .i64 es.length):=rfl
@[simp] theorem BE:aM T 22 .hn=some (.int .i64 0):=rfl
@[simp] theorem Bv(l k n s:Nat)(a:Bool):aM T 22 (.hs l k n s a)=some (.int .i64 n):=rfl
@[simp] theorem Cf(es:List AV):aM T 26 (.sl es)=some (.int .i64 es.length):=rfl
@[simp] theorem BF:aM T 26 .hn=some (.int .i64 0):=rfl
@[simp] theorem Bw(l k n s:Nat)(a:Bool):aM T 26 (.hs l k n s a)=some (.int .i64 n):=rfl
@[simp] theorem zw(es:List AV):aM T 35 (.sl es)=some (.int .i64 es.length):=rfl
@[simp] theorem BG:aM T 35 .hn=some (.int .i64 0):=rfl
@[simp] theorem Bz(l k n s:Nat)(a:Bool):aM T 35 (.hs l k n s a)=some (.int .i64 n):=rfl
@[simp] theorem cE(l:List aS):aM T 35 (strs l)=some (.int .i64 l.length):=(zw _).trans (by simp)
@[simp] theorem zx(es:List AV):aM T 36 (.sl es)=some (.int .i64 es.length):=rfl
@[simp] theorem BH:aM T 36 .hn=some (.int .i64 0):=rfl
@[simp] theorem BA(l k n s:Nat)(a:Bool):aM T 36 (.hs l k n s a)=some (.int .i64 n):=rfl
@[simp] theorem Br(l:List ky):aM T 36 (dw l)=some (.int .i64 l.length):=(zx _).trans (by simp[im])
@[simp] theorem zy(es:List AV):aM T 37 (.sl es)=some (.int .i64 es.length):=rfl
@[simp] theorem BI:aM T 37 .hn=some (.int .i64 0):=rfl
@[simp] theorem BB(l k n s:Nat)(a:Bool):aM T 37 (.hs l k n s a)=some (.int .i64 n):=rfl
@[simp] theorem Bt(l:List Exp):aM T 37 (eb l)=some (.int .i64 l.length):=(zy _).trans (by simp[fZ])
@[simp] theorem zA(es:List AV):aM T 38 (.sl es)=some (.int .i64 es.length):=rfl
@[simp] theorem BJ:aM T 38 .hn=some (.int .i64 0):=rfl
@[simp] theorem BC(l k n s:Nat)(a:Bool):aM T 38 (.hs l k n s a)=some (.int .i64 n):=rfl
@[simp] theorem Bu(l:List Fun):aM T 38 (pz l)=some (.int .i64 l.length):=(zA _).trans (by simp)
@[simp] theorem zB(es:List AV):aM T 60 (.sl es)=some (.int .i64 es.length):=rfl
@[simp] theorem BK:aM T 60 .hn=some (.int .i64 0):=rfl
@[simp] theorem BD(l k n s:Nat)(a:Bool):aM T 60 (.hs l k n s a)=some (.int .i64 n):=rfl
@[simp] theorem jl(l:List Int):aM T 60 (ints l)=some (.int .i64 l.length):=(zB _).trans (by simp)
def jk{l:List aS}{n:Int}(h0:0<=n)(h:n<(l.length:Int)):am T 35 (strs l) (.int .i64 n)=some (.ip (ab (AV.str l[n.toNat]!))):=cY (T:=T) (t:=35) (e:=9) rfl rfl rfl (fun _=>by first|rfl|(simp;done)|(simp;rfl)) h0 h
def Bp{l:List Exp}{n:Int}(h0:0<=n)(h:n<(l.length:Int)):am T 37 (eb l) (.int .i64 n)=some (.ip (ab (Exp.av l[n.toNat]!))):=by rw[eb,fZ];exact cY (T:=T) (t:=37) (e:=57) rfl rfl rfl (fun _=>by first|rfl|(simp;done)|(simp;rfl)) h0 h
def zv{l:List Int}{n:Int}(h0:0<=n)(h:n<(l.length:Int)):am T 60 (ints l) (.int .i64 n)=some (.ip (ab (AV.int .i64 l[n.toNat]!))):=cY (T:=T) (t:=60) (e:=3) rfl rfl rfl (fun _=>by first|rfl|(simp;done)|(simp;rfl)) h0 h
def Bn{a b:List aS}(h:(a.length+b.length)*16<=140737488355328):dH T 35 (strs a) (strs b)=some (strs (a++b)):=by
 have:=oU (T:=T) (t:=35) (e:=9) rfl rfl rfl (f:=AV.str) (fun _=>by first|rfl|(simp;done)|(simp;rfl)) (a:=a) (b:=b) h (by decide)
 simpa [strs]using this
def Bo{a b:List Int}(h:(a.length+b.length)*8<=140737488355328):dH T 60 (ints a) (ints b)=some (ints (a++b)):=by
 have:=oU (T:=T) (t:=60) (e:=3) rfl rfl rfl (f:=AV.int .i64) (fun _=>by first|rfl|(simp;done)|(simp;rfl)) (a:=a) (b:=b) h (by decide)
 simpa [ints]using this
@[simp] theorem zZ(t:Nat)(a b:Int):ao T .geq t (.int .u8 a) (.int .u8 b)=some (.bool (decide (b<=a))):=rfl
@[simp] theorem z6(t:Nat)(a b:Int):ao T .leq t (.int .u8 a) (.int .u8 b)=some (.bool (decide (a<=b))):=rfl
@[simp] theorem sG(t:Nat)(a b:aS):ao T .leq t (.str a) (.str b)=some (.bool (a7 a b||a== b)):=rfl
def t72(b:UInt8):ai pg 72 [.int .u8 b.toNat]=M.pure (.bool (kB b)):=by
 rw[C72];have e:decide ((b.toNat:Int)<=122)=decide (b.toNat<=122):=DL.2 (by omega);have e2:decide (97<=(b.toNat:Int))=decide (97<=b.toNat):=DL.2 (by omega);simp[S72,kB,e,e2]
def t75(b:UInt8):ai pg 75 [.int .u8 b.toNat]=M.pure (.bool (qM b)):=by
 rw[C75];have e:decide ((b.toNat:Int)<=57)=decide (b.toNat<=57):=DL.2 (by omega);have e2:decide (48<=(b.toNat:Int))=decide (48<=b.toNat):=DL.2 (by omega);simp[S75,qM,e,e2]
def t74(b:UInt8):ai pg 74 [.int .u8 b.toNat]=M.pure (.bool (dR b)):=by
 rw[C74];simp[S74,t72,t75,dR]
theorem xQ{s:aS}{i:Nat}(h:i<s.length):dT T 9 (.str s) (.int .i64 (i:Int))=some (.int .u8 (s[i].toNat:Int)):=by
 have e1:dT T 9 (.str s) (.int .i64 (i:Int))=(if(i:Int)<0 then none else s[(i:Int).toNat]?.map fun b=>.int .u8 b.toNat):=rfl;rw[e1,if_neg (by omega),Dn,Dc h];rfl
def yM(F:UInt8->Bool)(f:AV)(s:aS)(hb:s.length<=4611686018427387904)(hf:∀b:UInt8,iA (ai pg) f [.int .u8 b.toNat]=M.pure (.bool (F b))):∀(n i:Nat),s.length-i=n->i<=s.length->
  ah (L73_0 (ai pg) ah) [.str s,f,.int .i64 i]=M.pure (.int .i64 ((i+((s.drop i).takeWhile F).length:Nat):Int)):=by
 intro n
 induction n with
 |zero=>
  intro i hn hi;rw[FL73_0];simp only[L73_0];have h1:¬((i:Int)<(s.length:Int)):=by omega
  have h2:s.drop i=[]:=EY (by omega);simp[h1,h2]
 | succ n ih=>
  intro i hn hi;have hlt:i<s.length:=by omega
  have h1:(i:Int)<(s.length:Int):=by omega
  have h2:s.drop i=s[i]:: s.drop (i+1):=EP hlt;have h4:=ih (i+1) (by omega) (by omega);have hw:IntKind.i64.wrap ((i:Int)+1)=((i+1:Nat):Int):=jQ (by omega);rw[FL73_0];simp only[L73_0,ar,az,Bq,aj,aB,h1,EX,bL,xQ hlt,hf,aw,bJ,ak,bm,hw,h4,h2,List.takeWhile_cons];cases F s[i]
  ·simp
  ·rw[CW rfl,CW rfl];congr 3;simp;omega
def t41(s:aS):ai pg 41 [.str s]=M.pure (.bool (ji s)):=by
 rw[C41];by_cases hs:s=[]
 ·subst hs;simp[S41,ji]
 ·have hs':(s== [])=false:=Ep.2 hs;have hpos:0<s.length:=D7.2 hs;have h0:=xQ (s:=s) (i:=0) hpos;have hd:s[0]=s.headD 0:=by cases s with|nil=>exact absurd rfl hs|cons c s=>rfl
  rw[hd]at h0;simp at h0;by_cases hl:s.length<=20
  ·have h1:=yM dR (.fn (.func 74) [] []) s (by omega) (fun b=>t74 b) s.length 0 (by simp) (by simp);have hsp:ai pg 73 [.str s,.fn (.func 74) [] []]=M.pure (.int .i64 (((s.takeWhile dR).length:Nat):Int)):=by
    rw[C73];simp only[S73,cl,db];rw[show (AV.int .i64 0)=AV.int .i64 ((0:Nat):Int)from rfl,h1];simp
   have e1:decide (20<(s.length:Int))=false:=by rw[Ee];omega
   have e3:decide (20<s.length)=false:=by rw[Ee];omega
   have e4:decide (s.length<=20)=true:=by simpa using hl
   simp[S41,hs',h0,t72,hsp,e1,e3,e4,ji]
  ·have e1:decide (20<(s.length:Int))=true:=by rw[CU];omega
   have e3:decide (20<s.length)=true:=by rw[CU];omega
   have e4:decide (s.length<=20)=false:=by simpa using hl
   simp[S41,hs',h0,t72,e1,e3,e4,ji]
def t42(s:aS):ai pg 42 [.str gX,.str s]=M.pure (.bool (Lib.contains gX s)):=by
 rw[cW aW (E:=fF) rfl];rfl
theorem sF(t:Nat)(a b:aS):ao T .add t (.str a) (.str b)=if a.length+b.length<=4611686018427387904 then some (.str (a++b))else none:=rfl
def t15(s:aS):ai pg 15 [.str s]=M.pure (.bool (bD s)):=by
 rw[C15];have h1:=t41 s;unfold bD;cases hw:ji s with
 |false=>
  rw[hw]at h1;simp[S15,h1]
 |true=>
  have hl:=nH hw;rw[hw]at h1;have h2:=t42 ([32]++s++[32]);unfold gX at h2;have e1:ao T .add 9 (.str [32]) (.str s)=some (.str ([32]++s)):=by rw[sF,CW (by simp;omega)]
  have e2:ao T .add 9 (.str ([32]++s)) (.str [32])=some (.str ([32]++s++[32])):=by rw[sF,CW (by simp;omega)]
  simp only[S15,yw,h1,aw,bL,e1,aj,e2,h2,kD,ar,bJ,cy,En];rfl
@[simp] theorem yf(t:Nat)(a b:Int):ao T .andNot t (.int .i64 a) (.int .i64 b)=some (.int .i64 (wC a b)):=rfl
def bd{α β:Type}{m:M α}{a:α}{h h':Hp}(e:m h= .ok a h')(f:α->M β):ae m f h=f a h':=by simp only[ae,e]
def cQ{h:Hp}{l:Nat}{cs:List AV}(H:h[l]? = some cs):l<h.length:=by
 rcases Dg l h.length with h1|h1
 ·exact h1
 ·rw[C4 h1]at H;cases H
theorem Aj(i:Ins):(ab i.av).length=5:=rfl
def t59(l:List aS)(h:l.length<=8796093022208):ai pg 59 [strs l]=M.pure (strs l):=by
 have e:ai pg 59 [strs l]=fX T 35 (ai pg) [strs l]:=cW aW rfl _;rw[e];show af (dH T 35 (.sl []) (strs l))=_
 have:=Bn (a:=[]) (b:=l) (by simp;omega)
 simp only[DZ]at this;show af (dH T 35 (strs []) (strs l))=_;rw[this];rfl
end Go.Proofs.YtpmcemjkdkbicaaGreatDoor
namespace Go.Proofs.YtpmcemjkdkbicaaGreatDoor
open Go Go.Av Go.Av.Ap
set_option maxRecDepth 100000
section
variable (e:Exp)
end
theorem eu(t:Nat)(a b:Int):ao T .eql t (.int .i64 a) (.int .i64 b)=some (.bool (decide (a=b))):=rfl
theorem Co(a:Int):fT T false 67 [(0,.int .i64 a)]=some (m6 a 0).av:=rfl
theorem Cp{β:Type}(i:Ins)(f:AV->M β):ae (aT 5 [] i.av) f=f i.av:=rfl
end Go.Proofs.YtpmcemjkdkbicaaGreatDoor
namespace Go.Proofs.YtpmcemjkdkbicaaGreatDoor
open Go Go.Av Go.Av.Ap
set_option maxRecDepth 100000
section
variable {e:Exp}
end
theorem dU{α:Type}(a:α):cP (M.pure a)=M.pure a:=rfl
end Go.Proofs.YtpmcemjkdkbicaaGreatDoor
namespace Go.Proofs.YtpmcemjkdkbicaaGreatDoor
open Go Go.Av Go.Av.Ap
set_option maxRecDepth 100000
theorem um(k:Int)(es:List Exp):fT T false 57 [(0,.int .i64 k),(5,eb es)]=some (Exp.mk k 0 [] [] [] es).av:=rfl
def t6(e:Exp):bC 6 e.av=M.pure e.av:=by rw[bS (gJ _),dP,eX]
def t7(e:Exp):aT 6 [] e.av=M.pure e.av:=by rw[bF (gJ _),dP,eX]
def f6(o n:Int)(s m:aS)(ns:List aS)(es:List Exp):AV.agg [.int .i64 o,.int .i64 n,.str s,.str m,strs ns,eb es]=(Exp.mk o n s m ns es).av:=eX (Exp.mk o n s m ns es)
def Ci(o n:Int)(s m:aS)(es:List Exp):AV.agg [.int .i64 o,.int .i64 n,.str s,.str m,.sl [],eb es]=(Exp.mk o n s m [] es).av:=eX (Exp.mk o n s m [] es)
def r7(e:Exp)(n:Int):aZ (M.pure (.tup [e.av,.int .i64 n]))=M.pure (.tup [e.av,.int .i64 n]):=bE fun g=>by simp[cl,db]
def bp(o n:Int)(s m:aS)(ns:List aS)(es:List Exp):ab (Exp.mk o n s m ns es).av=[.int .i64 o,.int .i64 n,.str s,.str m,strs ns,eb es]:=dP _
def t98(e:Exp):ai pg 98 [e.av]=M.pure (.tup [(eq e).1.av,.int .i64 (eq e).2]):=by
 have hc1:∀n:Int,bN (.int .i64 n)=M.pure (.int .i64 n):=fun n=>rfl;have hc2:∀s:aS,bN (.str s)=M.pure (.str s):=fun s=>rfl;have hc3:∀s:List aS,bN (strs s)=M.pure (strs s):=fun s=>rfl;rw[C98];obtain⟨o,n,s,m,ns,es⟩:=e;have ho:o=0\/o=1\/o=2\/o=17\/o=18\/o=14\/o=16\/o=10\/o=12\/o=11\/o=13\/o=15\/(o≠0/\o≠1/\o≠2/\o≠17/\o≠18/\o≠14/\o≠16/\o≠10/\o≠12/\o≠11/\o≠13/\o≠15):=by omega
 rcases ho with rfl|rfl|rfl|rfl|rfl|rfl|rfl|rfl|rfl|rfl|rfl|rfl|⟨h0,h1,h2,h17,h18,h14,h16,h10,h12,h11,h13,h15⟩
 all_goals first
  | (simp[S98,K98_0,K98_1,K98_2,um,t7,bp,f6,Ci,hc1,hc2,hc3,eq,Exp.op,Exp.n,Exp.s,Exp.m,Exp.names,Exp.args]
     exact r7 _ _)
  | (simp[S98,K98_0,K98_1,K98_2,um,t7,bp,f6,Ci,hc1,hc2,hc3,eq,Exp.op,Exp.n,Exp.s,Exp.m,Exp.names,Exp.args,h0,h1,h2,h17,h18,h14,h16,h10,h12,h11,h13,h15]
     exact r7 _ _)
theorem wM(e:Exp)(he:e.Lim):ah (L99_0 (ai pg) ah) [.ip (ab e.av),strs e.names,.int .i64 e.names.length,.int .i64 0]=M.pure (.bool (dB e.names)):=by
 have hlen:=he.names
 have hloop:∀(m i:Nat),e.names.length-i=m->i<=e.names.length->ah (L99_0 (ai pg) ah) [.ip (ab e.av),strs e.names,.int .i64 e.names.length,.int .i64 i]=M.pure (.bool ((List.range' i (e.names.length-i)).all (fun k=>bD e.names[k]! && (decide (k=0)||eQ e.names[k-1]! e.names[k]!))&&decide (e.names.length<=8))):=by
  intro m
  induction m with
  |zero=>
   intro i hm hi;rw[FL99_0,hm];have h1:¬((i:Int)<(e.names.length:Int)):=by omega
   have h2:decide ((e.names.length:Int)<=8)=decide (e.names.length<=8):=by rw[DL];omega
   simp[L99_0,h1,h2]
  | succ m ih=>
   intro i hm hi;have hlt:i<e.names.length:=by omega
   have h1:(i:Int)<(e.names.length:Int):=by omega
   have ih':=ih (i+1) (by omega) (by omega);have er:List.range' i (e.names.length-i)=i:: List.range' (i+1) (e.names.length-(i+1)):=by
    rw[show e.names.length-i=(e.names.length-(i+1))+1 by omega,FB]
   have hix:=jk (l:=e.names) (n:=(i:Int)) (by omega) h1;rw[Dn]at hix;have hw:IntKind.i64.wrap ((i:Int)+1)=((i+1:Nat):Int):=jQ (by omega);have h2:=t15 e.names[i]!;rw[FL99_0,er,Ef];generalize e.names[i]! = s at hix h2 |-;cases hn:bD s with
   |false=>
    rw[hn]at h2;simp[L99_0,h1,hix,h2]
   | true=>
    rw[hn]at h2;rcases DR i with hk0|hk0
    ·subst hk0;have hix0:am T 35 (strs e.names) (.int .i64 0)=some (.ip (ab (.str s))):=hix;have hw0:IntKind.i64.wrap 1=1:=rfl;have hlt':0<e.names.length:=hlt;simpa [L99_0,h1,hlt',hix0,h2,hw0]using ih'
    ·have hp:IntKind.i64.wrap ((i:Int)-1)=((i-1:Nat):Int):=by
      rw[bv (by omega) (by omega)];omega
     have h4:((i-1:Nat):Int)<(e.names.length:Int):=by omega
     have hix2:=jk (l:=e.names) (n:=((i-1:Nat):Int)) (by omega) h4;rw[Dn]at hix2;generalize e.names[i-1]! = g at hix2 |-;have hk2:0<(i:Int):=by omega
     have hk3:¬i=0:=by omega
     have hle:ao T .leq 9 (.str s) (.str g)=some (.bool (!(eQ g s))):=by
      have:ao T .leq 9 (.str s) (.str g)=some (.bool (a7 s g||s== g)):=rfl;rw[this];simp[eQ]
     cases hs:eQ g s with
     |false=>
      rw[hs]at hle;simp[L99_0,h1,hix,h2,hp,hix2,hk0,hk2,hk3,hle,-sG]
     |true=>
      rw[hs]at hle;simpa [L99_0,h1,hix,h2,hp,hix2,hk0,hk2,hk3,hle,hw,-sG]using ih'
 have h:=hloop e.names.length 0 rfl (Ec _);rw[Nat.sub_zero,rO]at h;exact h
theorem t99(e:Exp)(he:e.Lim):ai pg 99 [e.av]=M.pure (.bool (ef e)):=by
 rw[C99];have hs:=t15 e.s;have hm:=t15 e.m;have hbn:=wM e he;obtain⟨o,n,s,m,ns,es⟩:=e;simp only[bp,Exp.names]at hbn;simp only[Exp.s,Exp.m]at hs hm;have ho:o=0\/o=1\/o=2\/o=17\/o=18\/o=14\/o=16\/o=12\/o=13\/o=15\/(o≠0/\o≠1/\o≠2/\o≠17/\o≠18/\o≠14/\o≠16/\o≠12/\o≠13/\o≠15):=by omega
 rcases ho with rfl|rfl|rfl|rfl|rfl|rfl|rfl|rfl|rfl|rfl|⟨h0,h1,h2,h17,h18,h14,h16,h12,h13,h15⟩
 ·simp[S99,K99_0,bp,ef,Exp.op,Exp.n,Exp.s,Exp.m,Exp.names,Exp.args];rfl
 ·simp[S99,K99_0,bp,ef,Exp.op,Exp.n,Exp.s,Exp.m,Exp.names,Exp.args]
 ·simp[S99,K99_0,bp,ef,Exp.op,Exp.n,Exp.s,Exp.m,Exp.names,Exp.args,hs]
 ·simp[S99,K99_0,bp,ef,Exp.op,Exp.n,Exp.s,Exp.m,Exp.names,Exp.args,hs]
 ·simp[S99,K99_0,bp,ef,Exp.op,Exp.n,Exp.s,Exp.m,Exp.names,Exp.args,hs]
 ·simp[S99,K99_0,bp,ef,Exp.op,Exp.n,Exp.s,Exp.m,Exp.names,Exp.args,hs]
 ·simp[S99,K99_0,bp,ef,Exp.op,Exp.n,Exp.s,Exp.m,Exp.names,Exp.args]
 ·simp[S99,K99_0,bp,ef,Exp.op,Exp.n,Exp.s,Exp.m,Exp.names,Exp.args,hs]
 ·simp[S99,K99_0,bp,ef,Exp.op,Exp.n,Exp.s,Exp.m,Exp.names,Exp.args,hbn]
 ·have e6:ao T .leq 3 (.int .i64 es.length) (.int .i64 6)=some (.bool (decide (es.length<=6))):=by
   have:ao T .leq 3 (.int .i64 es.length) (.int .i64 6)=some (.bool (decide ((es.length:Int)<=6))):=rfl;rw[this];exact CZ (fun b=>some (AV.bool b)) (DL.2 (by omega))
  cases ha:bD s with
  |false=>rw[ha]at hs;simp[S99,K99_0,bp,ef,Exp.op,Exp.n,Exp.s,Exp.m,Exp.names,Exp.args,hs,ha]
  | true=>
   rw[ha]at hs;by_cases hme:m=[]
   ·simp[S99,K99_0,bp,ef,Exp.op,Exp.n,Exp.s,Exp.m,Exp.names,Exp.args,hs,ha,hme,e6,-nP];try rfl
   ·cases hb:bD m with
    |false=>rw[hb]at hm;simp[S99,K99_0,bp,ef,Exp.op,Exp.n,Exp.s,Exp.m,Exp.names,Exp.args,hs,hm,ha,hb,hme,e6,-nP];try rfl
    |true=>rw[hb]at hm;simp[S99,K99_0,bp,ef,Exp.op,Exp.n,Exp.s,Exp.m,Exp.names,Exp.args,hs,hm,ha,hb,hme,e6,-nP];try rfl
 ·simp[S99,K99_0,bp,ef,Exp.op,Exp.n,Exp.s,Exp.m,Exp.names,Exp.args,h0,h1,h2,h17,h18,h14,h16,h12,h13,h15]
theorem t65:∀(d:Nat),d<=100->∀(e:Exp),e.Lim->ai pg 65 [e.av,.int .i64 d]=M.pure (.bool (fb d e))
 |0,_,e,_=>by
  rw[C65];simp[S65,fb]
 | d+1,hd,e,he=>by
  have hlen:=he.len;have hd1:IntKind.i64.wrap (((d+1:Nat):Int)-1)=(d:Int):=tI (by omega);have hloop:∀(m i:Nat),e.args.length-i=m->i<=e.args.length->ah (L65_0 (ai pg) ah) [.int .i64 ((d+1:Nat):Int),eb e.args,.int .i64 e.args.length,.int .i64 i]=M.pure (.bool ((e.args.drop i).all (fb d))):=by
   intro m
   induction m with
   |zero=>
    intro i hm hi;have h1:¬((i:Int)<(e.args.length:Int)):=by omega
    have h2:e.args.drop i=[]:=EY (by omega);rw[FL65_0,h2];simp[L65_0,h1]
   |succ m ih=>
    intro i hm hi;have hlt:i<e.args.length:=by omega
    have h1:(i:Int)<(e.args.length:Int):=by omega
    have h2:e.args.drop i=e.args[i]:: e.args.drop (i+1):=EP hlt;have hix:=Bp (l:=e.args) (n:=(i:Int)) (by omega) h1;rw[Dn,Dl e.args i hlt]at hix;have hw:IntKind.i64.wrap ((i:Int)+1)=((i+1:Nat):Int):=jQ (by omega);have hb:=t65 d (by omega) e.args[i] (he.kid (DT hlt));have ih':=ih (i+1) (by omega) (by omega);rw[h2,Ef,FL65_0];generalize e.args[i]=x at hix hb |-;cases hr:fb d x<;>rw[hr]at hb <;>
    simp only[L65_0,ar,az,aB,aj,h1,EX,ak,Dv,hix,dP,LD57,Dq,Eb,Ds,Nat.reduceAdd,C0,Fj,ET,eX,t6,aw,gU,hd1,hb,kD,Et,D3,C2,Dk,bm,hw,ih',EU,En]
  have hx':ah (L65_0 (ai pg) ah) [.int .i64 ((d:Int)+1),eb e.args,.int .i64 e.args.length,.int .i64 0]=M.pure (.bool (e.args.all (fb d))):=hloop e.args.length 0 rfl (Ec _);have hc:=t98 e;have hl:=t99 e he;rw[C65,qf];unfold rA;generalize (eq e).1=c at hc |-;generalize (eq e).2=n at hc |-;have g1:(((d:Int)+1)== 0)=false:=by rw[Ep];omega
  have x0:bq (.tup [c.av,.int .i64 n]) 0=some c.av:=rfl;have x1:bq (.tup [c.av,.int .i64 n]) 1=some (.int .i64 n):=rfl;have e1:ao T .neq 3 (.int .i64 c.n) (.int .i64 e.n)=some (.bool (!(c.n== e.n))):=rfl;have e2:ao T .neq 9 (.str c.s) (.str e.s)=some (.bool (!(c.s== e.s))):=rfl;have e3:ao T .neq 9 (.str c.m) (.str e.m)=some (.bool (!(c.m== e.m))):=rfl;have e4:ao T .neq 3 (.int .i64 c.names.length) (.int .i64 e.names.length)=some (.bool (!((c.names.length:Int)== (e.names.length:Int)))):=rfl;have e5:ao T .neq 3 (.int .i64 n) (.int .i64 e.args.length)=some (.bool (!(n== (e.args.length:Int)))):=rfl;have e6:ao T .geq 3 (.int .i64 n) (.int .i64 0)=some (.bool (!(decide (n<0)))):=by
   have:ao T .geq 3 (.int .i64 n) (.int .i64 0)=some (.bool (decide (0<=n))):=rfl;rw[this,<- Fg];exact CZ (fun b=>some (AV.bool b)) (DL.2 (by omega))
  have e7:ao T .lss 3 (.int .i64 e.op) (.int .i64 0)=some (.bool (!(decide (0<=e.op)))):=by
   have:ao T .lss 3 (.int .i64 e.op) (.int .i64 0)=some (.bool (decide (e.op<0))):=rfl;rw[this,<- Fg];exact CZ (fun b=>some (AV.bool b)) (DL.2 (by omega))
  have e8:ao T .geq 3 (.int .i64 e.op) (.int .i64 19)=some (.bool (!(decide (e.op<19)))):=by
   have:ao T .geq 3 (.int .i64 e.op) (.int .i64 19)=some (.bool (decide (19<=e.op))):=rfl;rw[this,<- Fg];exact CZ (fun b=>some (AV.bool b)) (DL.2 (by omega))
  generalize (c.n== e.n)=b1 at e1 |-;generalize (c.s== e.s)=b2 at e2 |-;generalize (c.m== e.m)=b3 at e3 |-;generalize ((c.names.length:Int)== (e.names.length:Int))=b4 at e4 |-;generalize (n== (e.args.length:Int))=b5 at e5 |-;generalize decide (n<0)=b6 at e6 |-;generalize decide (0<=e.op)=b7 at e7 |-;generalize decide (e.op<19)=b8 at e8 |-;generalize ef e=bl at hl |-;generalize e.args.all (fb d)=bx at hx' |-;cases b7 with
  |false=>simp[S65,g1,e7,-aB]
  | true=>
   cases b8 with
   |false=>simp[S65,g1,e7,e8,-aB,-rR]
   |true=>
    cases b6<;>cases b5<;>cases b1<;>cases b2<;>cases b3<;>cases b4<;>cases bl<;>simp[S65,g1,hc,x0,x1,t6,hl,hx',e1,e2,e3,e4,e5,e6,e7,e8,-aB,-rR,-v6]
def t37(e:Exp)(he:e.Lim):ai pg 37 [e.av]=M.pure (.bool (Cv e)):=by
 have hb':ai pg 65 [e.av,.int .i64 12]=M.pure (.bool (fb 12 e)):=t65 12 (by omega) e he;rw[C37];simp[S37,hb']
def setRow(ns:List aS):List AV:=ns.map fun s=>.tup [.str s,.bool true]
end Go.Proofs.YtpmcemjkdkbicaaGreatDoor
namespace Go.Proofs.YtpmcemjkdkbicaaGreatDoor
open Go Go.Av Go.Av.Ap
set_option maxRecDepth 100000
section
variable (f:Fun) (m:Ap.Mod)
end
theorem kw(b:Bool):oJ UnOp.not (.bool b)=some (.bool (!b)):=rfl
end Go.Proofs.YtpmcemjkdkbicaaGreatDoor
namespace Go.Proofs.YtpmcemjkdkbicaaGreatDoor
open Go Go.Av Go.Av.Ap
set_option maxRecDepth 100000
theorem AO(a:aS):ao T .eql 9 (.str a) (.str a)=some (.bool true):=by
 have h:ao T .eql 9 (.str a) (.str a)=some (.bool (a== a)):=rfl;rw[h,Eo]
theorem yY(a:aS):ao T .neq 9 (.str a) (.str a)=some (.bool false):=by
 have h:ao T .neq 9 (.str a) (.str a)=some (.bool (a != a)):=rfl;rw[h,bne_self_eq_false]
theorem yH(a:Int):ao T .neq 3 (.int .i64 a) (.int .i64 a)=some (.bool false):=by
 have h:ao T .neq 3 (.int .i64 a) (.int .i64 a)=some (.bool (a != a)):=rfl;rw[h,bne_self_eq_false]
theorem B2(a:Int):ao T .eql 3 (.int .i64 a) (.int .i64 a)=some (.bool true):=by
 have h:ao T .eql 3 (.int .i64 a) (.int .i64 a)=some (.bool (a== a)):=rfl;rw[h,Eo]
theorem q6(s:aS):ap T 9 (.ip (ab (.str s)))=some (.str s):=rfl
theorem uO(l:List aS)(hb:l.length<=1000000):∀n k:Nat,l.length-k=n->k<=l.length->ah (L61_0 (ai pg) ah) [strs l,strs l,.int .i64 (k:Int)]=M.pure (.bool true)
 |0,k,hn,hk=>by
  have h1:¬((k:Int)<(l.length:Int)):=by omega
  rw[FL61_0];simp -implicitDefEqProofs only[L61_0,ar,az,cE,aB,aj,ak,CU,if_neg h1]
 |n+1,k,hn,hk=>by
  have h1:(k:Int)<(l.length:Int):=by omega
  have hix:=jk (l:=l) (n:=(k:Int)) (by omega) h1;have hw:IntKind.i64.wrap ((k:Int)+1)=((k+1:Nat):Int):=by rw[bv (by omega) (by omega)];omega
  have ih:=uO l hb n (k+1) (by omega) (by omega);rw[FL61_0];simp -implicitDefEqProofs only[L61_0,ar,az,cE,aB,aj,ak,CU,CW h1,hix,q6,yY,C2,Dk,bm,hw,ih]
def t61(l:List aS)(hb:l.length<=1000000):ai pg 61 [strs l,strs l]=M.pure (.bool true):=by
 have h:=uO l hb l.length 0 rfl (Ec _);have h':ah (L61_0 (ai pg) ah) [strs l,strs l,.int .i64 0]=M.pure (.bool true):=h;have hcl:cl aC (strs l)=strs l:=by simp
 rw[C61,hcl];simp -implicitDefEqProofs only[S61,cE,aj,yH,ak,C2,Dk,h'];exact cy true
section
variable (i:Ins)
theorem fJ0:aa T 67 (.ip (ab i.av)) 0=some (.ip ((ab i.av).drop 0)):=rfl
theorem fJ1:aa T 67 (.ip (ab i.av)) 1=some (.ip ((ab i.av).drop 1)):=rfl
theorem fJ2:aa T 67 (.ip (ab i.av)) 2=some (.ip ((ab i.av).drop 2)):=rfl
theorem fJ3:aa T 67 (.ip (ab i.av)) 3=some (.ip ((ab i.av).drop 3)):=rfl
theorem fJ4:aa T 67 (.ip (ab i.av)) 4=some (.ip ((ab i.av).drop 4)):=rfl
theorem xR:ap T 3 (.ip ((ab i.av).drop 0))=some (.int .i64 i.op):=rfl
theorem yJ:ap T 3 (.ip ((ab i.av).drop 1))=some (.int .i64 i.a):=rfl
theorem ze:ap T 9 (.ip ((ab i.av).drop 2))=some (.str i.s):=rfl
theorem Az:ap T 9 (.ip ((ab i.av).drop 3))=some (.str i.m):=rfl
theorem wJ:ap T 35 (.ip ((ab i.av).drop 4))=some (strs i.names):=rfl
theorem vR:ap T 67 (.ip (ab i.av))=some i.av:=rfl
end
section
variable (c:Cod)
theorem fK0:aa T 28 (.ip (ab c.av)) 0=some (.ip ((ab c.av).drop 0)):=rfl
theorem fK1:aa T 28 (.ip (ab c.av)) 1=some (.ip ((ab c.av).drop 1)):=rfl
theorem fK2:aa T 28 (.ip (ab c.av)) 2=some (.ip ((ab c.av).drop 2)):=rfl
theorem fK3:aa T 28 (.ip (ab c.av)) 3=some (.ip ((ab c.av).drop 3)):=rfl
theorem zf:ap T 9 (.ip ((ab c.av).drop 0))=some (.str c.func):=rfl
theorem Bf:ap T 3 (.ip ((ab c.av).drop 1))=some (.int .i64 c.params):=rfl
theorem AA:ap T 3 (.ip ((ab c.av).drop 2))=some (.int .i64 c.locals):=rfl
theorem m9:ap T 26 (.ip ((ab c.av).drop 3))=some (f4 c.code):=rfl
end
def wI{l:List Cod}{n:Nat}(h:n<l.length):am T 22 (bi l) (.int .i64 (n:Int))=some (.ip (ab (Cod.av l[n]!))):=
 cY (T:=T) (t:=22) (e:=28) (f:=Cod.av) rfl rfl rfl (fun _=>rfl) (by omega) (by omega)
def zd{l:List Ins}{n:Nat}(h:n<l.length):am T 26 (f4 l) (.int .i64 (n:Int))=some (.ip (ab (Ins.av l[n]!))):=
 cY (T:=T) (t:=26) (e:=67) (f:=Ins.av) rfl rfl rfl (fun _=>rfl) (by omega) (by omega)
theorem jF(l:List Cod):aM T 22 (bi l)=some (.int .i64 l.length):=by
 have h:aM T 22 (bi l)=some (.int .i64 (l.map Cod.av).length):=rfl;rw[h,Ek]
theorem hJ(l:List Ins):aM T 26 (f4 l)=some (.int .i64 l.length):=by
 have h:aM T 26 (f4 l)=some (.int .i64 (l.map Ins.av).length):=rfl;rw[h,Ek]
theorem BX(y:AV):gv false false y=y:=rfl
theorem BZ(y:AV):gv true true y=y:=rfl
def t30(i:Ins)(hb:i.names.length<=1000000):ai pg 30 [i.av,i.av]=M.pure (.bool true):=by
 have hcl:cl aC i.av=i.av:=by simp[Ins.av,Ins.cells,cl,db]
 rw[C30,hcl];simp -implicitDefEqProofs only[S30,fJ0,fJ1,fJ2,fJ3,fJ4,xR,yJ,ze,Az,wJ,aj,B2,AO,bL,aI,BZ,ar,bJ,t61 i.names hb,aw];exact cy true
def nI(l:List Cod):Prop:=l.length<=1000000/\∀c∈l,c.code.length<=1000000000000/\∀i∈c.code,i.names.length<=1000000
theorem sd(v3:List AV->M AV){l:List Cod}(H:nI l){k:Nat}(hk:k<l.length):∀n j:Nat,l[k].code.length-j=n->j<=l[k].code.length->
  ah (L11_0 (ai pg) ah v3) [bi l,bi l,.int .i64 (k:Int),.int .i64 (j:Int)]=v3 [bi l,bi l,.int .i64 ((k+1:Nat):Int)]
 |0,j,hn,hj=>by
  have hc:=H.2 l[k] (DT hk);have h1:¬((j:Int)<(l[k].code.length:Int)):=by omega
  have hix:=wI hk;have h0:=H.1;rw[Dl l k hk]at hix;have hw:IntKind.i64.wrap ((k:Int)+1)=((k+1:Nat):Int):=by rw[bv (by omega) (by omega)];omega
  rw[FL11_0];simp -implicitDefEqProofs only[L11_0,ar,az,hix,fK3,m9,hJ,aB,aj,ak,CU,if_neg h1,bm,hw]
 |n+1,j,hn,hj=>by
  have hc:=H.2 l[k] (DT hk);have hj':j<l[k].code.length:=by omega
  have h1:(j:Int)<(l[k].code.length:Int):=by omega
  have hix:=wI hk;rw[Dl l k hk]at hix;have hjx:=zd hj';rw[Dl l[k].code j hj']at hjx;have hs:=t30 l[k].code[j] (hc.2 _ (DT hj'));have hw:IntKind.i64.wrap ((j:Int)+1)=((j+1:Nat):Int):=by rw[bv (by omega) (by omega)];omega
  have ih:=sd v3 H hk n (j+1) (by omega) (by omega);rw[FL11_0];simp -implicitDefEqProofs only[L11_0,ar,az,hix,fK3,m9,hJ,aB,aj,ak,CU,CW h1,hjx,vR,hs,dU,aw,kw,D3,C2,Dk,bm,hw,ih]
theorem se{l:List Cod}(H:nI l):∀n k:Nat,l.length-k=n->k<=l.length->ah (L11_1 (ai pg) ah) [bi l,bi l,.int .i64 (k:Int)]=M.pure (.bool true)
 |0,k,hn,hk=>by
  have h1:¬((k:Int)<(l.length:Int)):=by omega
  rw[FL11_1];simp -implicitDefEqProofs only[L11_1,ar,az,jF,aB,aj,ak,CU,if_neg h1]
 |n+1,k,hn,hk=>by
  have h1:(k:Int)<(l.length:Int):=by omega
  have hk':k<l.length:=by omega
  have hix:=wI hk';rw[Dl l k hk']at hix;have ih:=se H n (k+1) (by omega) (by omega);have hI:=sd (ah (L11_1 (ai pg) ah)) H hk' l[k].code.length 0 rfl (Ec _);have hI':ah (L11_0 (ai pg) ah (ah (L11_1 (ai pg) ah))) [bi l,bi l,.int .i64 (k:Int),.int .i64 0]=_:=hI.trans ih;rw[FL11_1];simp -implicitDefEqProofs only[L11_1,ar,az,jF,aB,aj,ak,CU,CW h1,hix,fK0,fK1,fK2,fK3,zf,Bf,AA,m9,hJ,yY,yH,bL,aI,BX,ar,aw,cD,c8,Bool.or_false,Bool.false_or,C2,Dk,ak,hI']
def t11{l:List Cod}(H:nI l):ai pg 11 [bi l,bi l]=M.pure (.bool true):=by
 have h:=se H l.length 0 rfl (Ec _);have h':ah (L11_1 (ai pg) ah) [bi l,bi l,.int .i64 0]=M.pure (.bool true):=h;have hci:∀(g:Nat->Nat->Nat->Nat->Bool->AV)(i:Ins),cl g i.av=i.av:=fun g i=>by simp[Ins.av,Ins.cells,cl,db]
 have hcc:∀(g:Nat->Nat->Nat->Nat->Bool->AV)(c:Cod),cl g c.av=c.av:=fun g c=>by simp[Cod.av,f4,cl,db,bT g Ins.av (hci g)]
 have hcl:cl aC (bi l)=bi l:=by simp[bi,cl,bT aC Cod.av (hcc aC)]
 rw[C11,hcl];simp -implicitDefEqProofs only[S11,jF,aj,yH,ak,C2,Dk,h'];exact cy true
end Go.Proofs.YtpmcemjkdkbicaaGreatDoor
namespace Go.Proofs.YtpmcemjkdkbicaaGreatDoor
open Go Go.Av Go.Av.Ap
set_option maxRecDepth 100000
theorem ry(a b:aS):ao T .eql 9 (.str a) (.str b)=some (.bool (a== b)):=rfl
theorem q7(t:Nat)(a b:Int):ao T .leq t (.int .i64 a) (.int .i64 b)=some (.bool (decide (a<=b))):=rfl
theorem uP(l:List aS)(hb:l.length<=1000000):∀n k:Nat,l.length-k=n->k<=l.length->
  ah (L89_0 (ai pg) ah) [strs l,strs l,.int .i64 l.length,.int .i64 (k:Int)]=M.pure (.bool ((List.range' k n).all (fun k=>bD l[k]! && (decide (k=0)||eQ l[k-1]! l[k]!))&&decide (l.length<=8)))
 |0,k,hn,hk=>by
  have h1:¬((k:Int)<(l.length:Int)):=by omega
  have h2:decide ((l.length:Int)<=8)=decide (l.length<=8):=DL.2 (by omega);rw[FL89_0];simp -implicitDefEqProofs only[L89_0,ar,az,cE,aB,aj,ak,CU,if_neg h1,q7,h2];simp
 | n+1,k,hn,hk=>by
  have h1:(k:Int)<(l.length:Int):=by omega
  have hix:=jk (l:=l) (n:=(k:Int)) (by omega) h1;rw[Dn]at hix;have hw:IntKind.i64.wrap ((k:Int)+1)=((k+1:Nat):Int):=by rw[bv (by omega) (by omega)];omega
  have ih:=uP l hb n (k+1) (by omega) (by omega);have hN:=t15 l[k]!;rw[FL89_0,FB,Ef];generalize (List.range' (k+1) n).all (fun k=>bD l[k]! && (decide (k=0)||eQ l[k-1]! l[k]!))=q at ih |-;generalize decide (l.length<=8)=q8 at ih |-;generalize l[k]! = x at hix hN |-;rcases DR k with hk0|hk0
  ·subst hk0;simp only[L89_0,ar,az,aB,aj,ak,CU,CW h1,hix,q6,hN,aw,kD];cases hx:bD x with
   |false=>simp
   |true=>
    have hw0:IntKind.i64.wrap 1=1:=rfl;simp[hw0];exact ih
  ·have hp:IntKind.i64.wrap ((k:Int)-1)=((k-1:Nat):Int):=by rw[bv (by omega) (by omega)];omega
   have hix2:=jk (l:=l) (n:=((k-1:Nat):Int)) (by omega) (by omega);rw[Dn]at hix2;generalize l[k-1]! = g at hix2 |-;have hk1:decide (k=0)=false:=DF (by omega);have hk2:decide ((0:Int)<(k:Int))=true:=Dm (by omega);have hge:ao T .geq 9 (.str g) (.str x)=some (.bool (!(a7 g x))):=rfl;have ha:eQ g x=a7 g x:=EB.2 (qw g x);rw[ha];simp only[L89_0,ar,az,aB,aj,ak,CU,CW h1,hix,q6,hN,aw,kD,cG,hk1,gU,hp,hix2,bm,hw,ih,hk2,hge];cases bD x<;>cases a7 g x<;>simp[gv]
def t89(l:List aS)(hb:l.length<=1000000):ai pg 89 [strs l]=M.pure (.bool (dB l)):=by
 have h:=uP l hb l.length 0 rfl (Ec _);rw[rO bD eQ l]at h;have h':ah (L89_0 (ai pg) ah) [strs l,strs l,.int .i64 l.length,.int .i64 0]=M.pure (.bool (dB l)):=h;have hcl:cl aC (strs l)=strs l:=by simp
 rw[C89,hcl];simp -implicitDefEqProofs only[S89,cE,aj,h'];exact cy _
def dL(a:Int)(s m:aS)(names:List aS)(ok:Bool):Bool:=((((ok&&decide (a=0))&&(s== []))&&(m== []))&&decide ((names.length:Int)=0))
def gF(a:Int)(s m:aS)(names:List aS)(ok:Bool):K48_0 (ai pg) ah [.int .i64 a,.str s,.str m,strs names,.bool ok]=M.pure (.bool (dL a s m names ok)):=by
 simp -implicitDefEqProofs only[K48_0,ar,az,eu,ry,cE,aj,aI,aw,bV,dL]
theorem Au(a:Int)(s m:aS)(names:List aS)(op:Int)(hb:names.length<=1000000)(h:¬(op=0\/op=1\/op=2\/op=3\/op=10\/op=11)):
  K48_2 (ai pg) ah (K48_0 (ai pg) ah) [.int .i64 a,.str s,.str m,strs names,.bool true,.int .i64 op,.bool (decide (op=16)||decide (op=17))]=M.pure (.bool (
   if op=16\/op=17 then dL 0 s m names (decide (0<=a)&&decide (a<8))
   else if op=15 then dL 0 s m names (((decide (a=1)||decide (a=2))||decide (a=4))||decide (a=8))
   else if op=13 then dL a [] m names (bD s)
   else if op=14 then dL 0 [] [] names (((decide (0<=a)&&decide (a<=6))&&bD s)&&((m== [])||bD m))
   else if op=12 then dL a s m [] (dB names)
   else if dI op=true then dL a s m names true else false)):=by
 have hN:=t15 s;have hM:=t15 m;have hA:=t89 names hb;have e0:(AV.sl []:AV)=strs []:=rfl;by_cases h16:op=16\/op=17
 ·have hd:(decide (op=16)||decide (op=17))=true:=by simpa using h16
  simp -implicitDefEqProofs only[K48_2,ar,az,hd,ak,Dv,q7,aB,aj,aI,aw,bV,gF,CW h16]
 have hd:(decide (op=16)||decide (op=17))=false:=by simpa using h16
 rw[if_neg h16];simp -implicitDefEqProofs only[K48_2,ar,az,hd,ak,C2,Dk,eu,aj,CU];by_cases h15:op=15
 ·simp -implicitDefEqProofs only[CW h15,aI,aw,ar,c8,aj,gF]
 simp -implicitDefEqProofs only[if_neg h15];by_cases h13:op=13
 ·simp -implicitDefEqProofs only[CW h13,hN,aw,gF]
 simp -implicitDefEqProofs only[if_neg h13];by_cases h14:op=14
 ·simp -implicitDefEqProofs only[CW h14,q7,aj,aI,aw,ar,bV,hN,hM,ry];generalize ((decide (0<=a)&&decide (a<=6))&&bD s)=q;cases q
  ·simp[gv,gF,fL,jv]
  ·cases (m== [])<;>simp[gv,gF]
 simp -implicitDefEqProofs only[if_neg h14];by_cases h12:op=12
 ·simp -implicitDefEqProofs only[CW h12,hA,aw,e0,gF]
 simp -implicitDefEqProofs only[if_neg h12,jn,K48_1,ar,az,ak,CU,gF,dI];by_cases h4:op=4
 ·simp[h4]
 by_cases h5:op=5
 ·simp[h5]
 by_cases h6:op=6
 ·simp[h6]
 by_cases h7:op=7
 ·simp[h7]
 by_cases h8:op=8
 ·simp[h8]
 by_cases h9:op=9
 ·simp[h9]
 by_cases h18:op=18
 ·simp[h18]
 by_cases h19:op=19
 ·simp[h19]
 simp[h4,h5,h6,h7,h8,h9,h18,h19]
def kT(g:Nat->Nat->Nat->Nat->Bool->AV)(i:Ins):cl g i.av=i.av:=by simp[Ins.av,Ins.cells,cl,db]
def gA(g:Nat->Nat->Nat->Nat->Bool->AV)(c:Cod):cl g c.av=c.av:=by simp[Cod.av,f4,cl,db,bT g Ins.av (kT g)]
def t48(c:Cod)(i:Ins)(hb:i.names.length<=1000000):ai pg 48 [c.av,i.av]=M.pure (.bool (aP c.code.length c.locals i)):=by
 have key:S48 (ai pg) ah c.av i.av=M.pure (.bool (aP c.code.length c.locals i)):=by
  have hq:∀k:Int,(i.a== k)=decide (i.a=k):=fun _=>rfl;have hz:(i.names== [])=decide ((i.names.length:Int)=0):=by
   cases i.names<;>simp;omega
  simp -implicitDefEqProofs only[S48,fJ0,fJ1,fJ2,fJ3,fJ4,xR,yJ,ze,Az,wJ,aj,jn,eu,ak,CU];by_cases h0:i.op=0
  ·simp -implicitDefEqProofs only[CW h0,gF];simp[dL,aP,h0,hz,hq]
  simp -implicitDefEqProofs only[if_neg h0];by_cases h1:i.op=1
  ·simp -implicitDefEqProofs only[CW h1,aI,aw,ar,c8,aj,gF];simp[dL,aP,h1,hz,hq]
  simp -implicitDefEqProofs only[if_neg h1];have k4:∀b,b=(decide (i.op=2)||decide (i.op=3))->K48_4 (ai pg) ah (K48_0 (ai pg) ah) [.ip (ab c.av),.int .i64 i.a,.str i.s,.str i.m,strs i.names,.bool true,.int .i64 i.op,.bool b]=M.pure (.bool (aP c.code.length c.locals i)):=by
   intro b hbb;by_cases h2:i.op=2\/i.op=3
   ·have hbt:b=true:=by rw[hbb];simpa using h2
    subst hbt;simp -implicitDefEqProofs only[K48_4,ar,az,ak,Dv,q7,fK2,AA,aB,aj,aI,aw,bV,gF];simp[dL,aP,h0,h1,h2,hz,hq]
   have hbf:b=false:=by rw[hbb];simpa using h2
   subst hbf;have k3:∀b,b=(decide (i.op=10)||decide (i.op=11))->K48_3 (ai pg) ah (K48_0 (ai pg) ah) [.ip (ab c.av),.int .i64 i.a,.str i.s,.str i.m,strs i.names,.bool true,.int .i64 i.op,.bool b]=M.pure (.bool (aP c.code.length c.locals i)):=by
    intro b hbb;by_cases h10:i.op=10\/i.op=11
    ·have hbt:b=true:=by rw[hbb];simpa using h10
     subst hbt;simp -implicitDefEqProofs only[K48_3,ar,az,ak,Dv,q7,fK3,m9,hJ,aB,aj,aI,aw,bV,gF];simp[dL,aP,h0,h1,h2,h10,hz,hq]
    have hbf:b=false:=by rw[hbb];simpa using h10
    subst hbf;have k2:=Au i.a i.s i.m i.names i.op hb (by omega);have e2:∀b,b=(decide (i.op=16)||decide (i.op=17))->K48_2 (ai pg) ah (K48_0 (ai pg) ah) [.int .i64 i.a,.str i.s,.str i.m,strs i.names,.bool true,.int .i64 i.op,.bool b]=M.pure (.bool (aP c.code.length c.locals i)):=by
     rintro _ rfl;rw[k2];unfold aP;rw[if_neg h0,if_neg h1,if_neg h2,if_neg h10];by_cases h16:i.op=16\/i.op=17
     ·simp[dL,h16,hz,hq]
     rw[if_neg h16,if_neg h16];by_cases h15:i.op=15
     ·simp[dL,h15,hz,hq]
     rw[if_neg h15,if_neg h15];by_cases h13:i.op=13
     ·simp[dL,h13,hz,hq]
     rw[if_neg h13,if_neg h13];by_cases h14:i.op=14
     ·simp[dL,h14,hz,hq]
     rw[if_neg h14,if_neg h14];by_cases h12:i.op=12
     ·simp[dL,h12,hz,hq]
     rw[if_neg h12,if_neg h12];cases dI i.op<;>simp[dL,hz,hq]
    simp -implicitDefEqProofs only[K48_3,ar,az,ak,C2,Dk,jn,eu,aj,CU];by_cases h16:i.op=16
    ·rw[CW h16];exact e2 _ (by simp[h16])
    ·rw[if_neg h16];exact e2 _ (by simp[h16])
   simp -implicitDefEqProofs only[K48_4,ar,az,ak,C2,Dk,jn,eu,aj,CU];by_cases h10:i.op=10
   ·rw[CW h10];exact k3 _ (by simp[h10])
   ·rw[if_neg h10];exact k3 _ (by simp[h10])
  by_cases h2:i.op=2
  ·rw[CW h2];exact k4 _ (by simp[h2])
  ·rw[if_neg h2];exact k4 _ (by simp[h2])
 rw[C48,gA,kT,key];exact cy _
def t22(n:Int)(h0:-9223372036854775808<=n)(h1:n<=9223372036854775807):ai pg 22 [.int .i64 n]=M.pure (.str (bA n)):=by
 rw[cW aW (E:=m7) rfl];simp only[m7,Dm h0,Dm h1,Ex,CV];rfl
theorem fV(a b:aS)(h:a.length+b.length<=4611686018427387904):ao T .add 9 (.str a) (.str b)=some (.str (a++b)):=by
 have e:ao T .add 9 (.str a) (.str b)=if a.length+b.length<=4611686018427387904 then some (.str (a++b))else none:=rfl;rw[e,CW h]
theorem Ct(cs:List AV){n:Int}(h0:0<=n)(h1:n<20):am T 120 (.ip cs) (.int .i64 n)=some (.ip (cs.drop (n.toNat*1))):=by
 have e:am T 120 (.ip cs) (.int .i64 n)=if 0<=n/\n<20 then some (.ip (cs.drop (n.toNat*1)))else none:=rfl;rw[e,CW ⟨h0,h1⟩]
theorem Cu{n:Int}(h0:0<=n)(h1:n<20):ap T 9 (.ip ((bj.map AV.str).drop (n.toNat*1)))=some (.str (cL n)):=by
 have e:ap T 9 (.ip ((bj.map AV.str).drop (n.toNat*1)))=((bj.map AV.str).drop (n.toNat*1)).head?:=rfl;have hl:n.toNat<bj.length:=by show n.toNat<20;omega
 rw[e,List.head?_drop,Eh,DN,Dc hl];unfold cL;rw[Dl bj n.toNat hl];rfl
def qv{n:Int}(h0:0<=n)(h1:n<20):(cL n).length<=6:=by
 have key:∀w∈bj,w.length<=6:=by decide
 refine key _ ?_;unfold cL;rw[Dl bj n.toNat (by show n.toNat<20;omega)];exact DT _
theorem m8:∀(l:List aS)(w:aS),cS (w:: l)=l.foldl (fun t n=>t++32:: n) w
 |[],_=>rfl
 | a:: l,w=>by
  rw[List.foldl_cons,<- m8 l (w++32:: a)];cases l with
  |nil=>rfl
  |cons b l=>
   show w++32:: (a++32:: cS (b:: l))=(w++32:: a)++32:: cS (b:: l);simp
def pM(v:aS)(h:v.length<=1000000000):K23_0 (ai pg) ah [.str v]=M.pure (.str (v++[10])):=by
 simp -implicitDefEqProofs only[K23_0,ar,fV v [10] (by simp;omega),aj]
theorem uM(l:List aS)(hl:l.length<=1000000)(hx:∀x∈l,x.length<=20):∀(B A:List aS)(t:aS),A++B=l->t.length+21*B.length<=100000000->
  ah (L23_0 (ai pg) ah (K23_0 (ai pg) ah)) [.str t,strs l,.int .i64 l.length,.int .i64 A.length]=M.pure (.str (B.foldl (fun t n=>t++32:: n) t++[10]))
 |[],A,t,e,hb=>by
  rw[DX]at e;subst e;have h1:¬((A.length:Int)<(A.length:Int)):=by omega
  rw[FL23_0];simp -implicitDefEqProofs only[L23_0,ar,az,aB,aj,ak,CU,if_neg h1,pM t (by omega)];rfl
 |x:: B,A,t,e,hb=>by
  have hlen:A.length+(B.length+1)=l.length:=by rw[<- e];simp
  have h1:(A.length:Int)<(l.length:Int):=by omega
  have hix:=jk (l:=l) (n:=(A.length:Int)) (by omega) h1;have hxx:l[A.length]! = x:=by rw[Dl l A.length (by omega)];simp[<- e]
  rw[Dn,hxx]at hix;have hx20:=hx x (by rw[<- e];simp);simp only[Dq]at hb;have hw:IntKind.i64.wrap ((A.length:Int)+1)=((A++[x]).length:Nat):=by rw[bv (by omega) (by omega)];simp
  have c1:ao T .add 9 (.str [32]) (.str x)=some (.str (32:: x)):=fV [32] x (by simp;omega);have c2:=fV t (32:: x) (by simp;omega);have ih:=uM l hl hx B (A++[x]) (t++32:: x) (by rw[<- e];simp) (by simp;omega);rw[FL23_0];simp -implicitDefEqProofs only[L23_0,ar,az,aB,aj,ak,CU,CW h1,hix,q6,c1,c2,bm,hw,ih];rfl
def t23{len locals:Int}{i:Ins}(h:aP len locals i=true)(hb:-9223372036854775808<=i.a/\i.a<=9223372036854775807):ai pg 23 [i.av]=M.pure (.str (dK i)):=by
 obtain⟨p0,p1⟩:=fJ h;have hwl:=qv p0 p1;have hI:=t22 i.a hb.1 hb.2;have hIl:=eJ i.a;have hld:=Cu p0 p1;have hix:=Ct (bj.map AV.str) p0 p1;simp only[bj,DC,ER]at hld hix;have key:S23 (ai pg) ah i.av=M.pure (.str (dK i)):=by
  simp -implicitDefEqProofs only[S23,fJ0,xR,aj,hix,hld,jn,eu,ak,CU];generalize hw:cL i.op=w at *;unfold dK fp;rw[hw];by_cases h13:i.op=13
  ·have hn:bD i.s=true:=by
    simp[aP,h13]at h;exact h.1.1.1
   have hl:=b9 hn;have c1:ao T .add 9 (.str [32]) (.str i.s)=some (.str (32:: i.s)):=fV [32] i.s (by simp;omega);have c2:=fV w (32:: i.s) (by simp;omega);simp -implicitDefEqProofs only[CW h13,fJ2,ze,aj,c1,c2,pM (w++32:: i.s) (by simp;omega)];rfl
  simp -implicitDefEqProofs only[if_neg h13];by_cases h14:i.op=14
  ·simp[aP,h14]at h;obtain⟨⟨⟨_,hs⟩,hm⟩,_⟩:=h;have hl:=b9 hs;have kk:∀m':aS,m'.length<=20->K23_1 (ai pg) ah (K23_0 (ai pg) ah) [.ip (ab i.av),.str w,.str m']=M.pure (.str (cS [w,m',i.s,bA i.a]++[10])):=by
    intro m' hm';have c1:ao T .add 9 (.str [32]) (.str m')=some (.str (32:: m')):=fV [32] m' (by simp;omega);have c2:=fV (32:: m') [32] (by simp;omega);have c3:=fV (32:: m'++[32]) i.s (by simp;omega);have c4:=fV (32:: m'++[32]++i.s) [32] (by simp;omega);have c5:=fV (32:: m'++[32]++i.s++[32]) (bA i.a) (by simp;omega);have c6:=fV w (32:: m'++[32]++i.s++[32]++bA i.a) (by simp;omega);simp -implicitDefEqProofs only[K23_1,ar,az,fJ1,fJ2,yJ,ze,aj,c1,c2,c3,c4,hI,aw,c5,c6,pM (w++(32:: m'++[32]++i.s++[32]++bA i.a)) (by simp;omega)];simp[cS]
   simp -implicitDefEqProofs only[CW h14,fJ3,Az,aj,ry,ak];by_cases hmn:i.m=[]
   ·simp only[hmn,Eo,Dv];exact kk [46] (by simp)
   ·have hb2:(i.m== [])=false:=by rw[Ep];exact hmn
    simp only[hb2,C2,Dk,if_neg hmn];exact kk i.m (b9 (hm.resolve_left hmn))
  simp -implicitDefEqProofs only[if_neg h14];by_cases h12:i.op=12
  ·have hn:dB i.names=true:=by
    simp[aP,h12]at h;exact h.1.1.1
   simp only[dB,CX,C6,CU]at hn;have hl:=uM i.names (by omega) (fun x hx=>b9 (hn.1.1 x hx)) i.names [] w rfl (by omega);simp -implicitDefEqProofs only[CW h12,fJ4,wJ,aj,cE];rw[m8];exact hl
  simp -implicitDefEqProofs only[if_neg h12];have k2:∀b,b=dI i.op->K23_2 (ai pg) ah (K23_0 (ai pg) ah) [.ip (ab i.av),.str w,.bool b]=M.pure (.str (cS (if dI i.op=true then[w]else[w,bA i.a])++[10])):=by
   intro b hbb;have c1:ao T .add 9 (.str [32]) (.str (bA i.a))=some (.str (32:: bA i.a)):=fV [32] _ (by simp;omega);have c2:=fV w (32:: bA i.a) (by simp;omega);cases b with
   |true=>
    rw[CW hbb.symm];simp -implicitDefEqProofs only[K23_2,ar,az,ak,Dv,pM w (by omega)];rfl
   |false=>
    rw[if_neg (by rw[<- hbb];simp)];simp -implicitDefEqProofs only[K23_2,ar,az,ak,C2,Dk,fJ1,yJ,aj,hI,aw,c1,c2,pM (w++32:: bA i.a) (by simp;omega)];rfl
  by_cases h4:i.op=4
  ·rw[CW h4];exact k2 _ (by simp[dI,h4])
  rw[if_neg h4];by_cases h5:i.op=5
  ·rw[CW h5];exact k2 _ (by simp[dI,h5])
  rw[if_neg h5];by_cases h6:i.op=6
  ·rw[CW h6];exact k2 _ (by simp[dI,h6])
  rw[if_neg h6];by_cases h7:i.op=7
  ·rw[CW h7];exact k2 _ (by simp[dI,h7])
  rw[if_neg h7];by_cases h8:i.op=8
  ·rw[CW h8];exact k2 _ (by simp[dI,h8])
  rw[if_neg h8];by_cases h9:i.op=9
  ·rw[CW h9];exact k2 _ (by simp[dI,h9])
  rw[if_neg h9];by_cases h18:i.op=18
  ·rw[CW h18];exact k2 _ (by simp[dI,h18])
  rw[if_neg h18];exact k2 _ (by simp[dI,h4,h5,h6,h7,h8,h9,h18])
 rw[C23,kT,key];exact gE _
theorem jG(s:aS):aM T 9 (.str s)=some (.int .i64 s.length):=rfl
def sD(s:aS){n:Int}(h0:0<=n)(h1:n<=s.length):cb T 9 (.str s) none (some (.int .i64 n)) none=some (.str (s.take n.toNat)):=by
 show (match bw (some (.int .i64 n)) s.length s.length with|none=>none|some h=>match bw none 0 h with|none=>none|some l=>some (AV.str ((s.take h).drop l)))=_;simp[bw,h0,h1]
def sE(s:aS){n:Int}(h0:0<=n)(h1:n<=s.length):cb T 9 (.str s) (some (.int .i64 n)) none none=some (.str (s.drop n.toNat)):=by
 show (match bw none s.length s.length with|none=>none|some h=>match bw (some (.int .i64 n)) 0 h with|none=>none|some l=>some (AV.str ((s.take h).drop l)))=_;have:n<=((s.length:Nat):Int):=h1;simp[bw,h0,this]
theorem wE(x y:Int):ao T .geq 3 (.int .i64 x) (.int .i64 y)=some (.bool (decide (y<=x))):=rfl
theorem A3(x y:Int):ao T .sub 3 (.int .i64 x) (.int .i64 y)=some (.int .i64 (IntKind.i64.wrap (x-y))):=rfl
def t57(s:aS)(h:s.length<=281474976710656):ai pg 57 [.str s]=M.pure (kP 175 s):=by
 rw[cW aW (E:=mI 175) rfl];simp only[mI,Dm h,CV];rfl
def t28(s:aS)(h:s.length<=281474976710656):ai pg 28 [.str s]=M.pure (.int .i64 (dx s)):=by
 have hx:∃y,kP 175 s= .tup [.int .i64 (dx s),y]:=by
  unfold kP dx;cases Lib.atoiAll s<;>exact⟨_,rfl⟩
 obtain⟨y,hy⟩:=hx;have ha:=t57 s h;rw[hy]at ha;rw[C28,show cl aC (.str s)= .str s from rfl];simp -implicitDefEqProofs only[S28,ha,aw,bX,Db,DO,aj];exact pL _ _
def pD(s p:aS):Bool:=decide ((p.length:Int)<=s.length)&&(s.take p.length== p)
def t121(s p:aS):ai pg 121 [.str s,.str p]=M.pure (.bool (pD s p)):=by
 rw[C121,show cl aC (.str s)= .str s from rfl,show cl aC (.str p)= .str p from rfl];have e:S121 (ai pg) ah (.str s) (.str p)=M.pure (.bool (pD s p)):=by
  unfold pD;by_cases h:(p.length:Int)<=s.length
  ·have hs:=sD s (n:=(p.length:Int)) (by omega) h;rw[Dn]at hs;simp only[S121,jG,aj,wE,h,EX,bL,hs,ry,aw,ar,bJ,En]
  ·simp only[S121,jG,aj,wE,h,decide_false,fL,aw,cD,EU]
 rw[e];exact cy _
theorem t60(s:aS):ai pg 60 [.str s,.str [46]]=M.pure (.str (jh s)):=by
 have h2:ai pg 97 [.str s,.str [46]]=M.pure (.str (jh s)):=by
  have hp:=t121 s [46];rw[C97,show cl aC (.str s)= .str s from rfl,show cl aC (.str [46])= .str [46]from rfl];have e:S97 (ai pg) ah (.str s) (.str [46])=M.pure (.str (jh s)):=by
   cases s with
   |nil=>
    have hq:pD [] [46]=false:=rfl;rw[hq]at hp;simp -implicitDefEqProofs only[S97,hp,aw,ak,C2,Dk];rfl
   | cons x s=>
    by_cases hx:x=46
    ·subst hx;have hq:pD (46:: s) [46]=true:=by simp[pD];omega
     rw[hq]at hp;have hs:=sE (46:: s) (n:=1) (by omega) (by simp;omega);have hl:aM T 9 (.str [46])=some (.int .i64 1):=rfl;simp -implicitDefEqProofs only[S97,hp,aw,ak,Dv,hl,aj,hs];rfl
    ·have hq:pD (x:: s) [46]=false:=by simp[pD,hx]
     rw[hq]at hp;simp -implicitDefEqProofs only[S97,hp,aw,ak,C2,Dk];unfold jh;rw[if_neg (by simp[hx])]
  rw[e];exact gE _
 rw[C60,show cl aC (.str s)= .str s from rfl,show cl aC (.str [46])= .str [46]from rfl];simp -implicitDefEqProofs only[S60,h2,aw];exact gE _
theorem t94(s:aS)(hb:s.length<=4611686018427387904):ai pg 94 [.str s,.str [10]]=M.pure (.bool (decide (s.getLast? = some 10))):=by
 rw[C94,show cl aC (.str s)= .str s from rfl,show cl aC (.str [10])= .str [10]from rfl];have hl:aM T 9 (.str [10])=some (.int .i64 1):=rfl;have e:S94 (ai pg) ah (.str s) (.str [10])=M.pure (.bool (decide (s.getLast? = some 10))):=by
  by_cases h:(1:Int)<=s.length
  ·have hw:IntKind.i64.wrap ((s.length:Int)-1)=s.length-1:=bv (by omega) (by omega);have hs:=sE s (n:=(s.length:Int)-1) (by omega) (by omega);have hd:s.drop ((s.length:Int)-1).toNat=s.getLast?.toList:=by
    have hne:s≠[]:=fun e=>by rw[e]at h;simp at h
    obtain⟨t,x,rfl⟩:∃t x,s=t++[x]:=⟨s.dropLast,s.getLast hne,(EK hne).symm⟩;rw[show (((t++[x]).length:Int)-1).toNat=t.length by simp];simp
   rw[hd]at hs;have hq:(s.getLast?.toList== ([10]:aS))=decide (s.getLast? = some 10):=by
    cases hg:s.getLast? with
    |none=>rfl
    |some x=>
     by_cases hx:x=10<;>simp[hx]
   simp -implicitDefEqProofs only[S94,jG,hl,aj,wE,Dm h,bL,A3,hw,hs,ry,hq,aw,ar,bJ]
  ·have hs0:s=[]:=by cases s with|nil=>rfl|cons=>exact absurd (by simp;omega) h
   subst hs0;simp -implicitDefEqProofs only[S94,jG,hl,aj,wE,DF h,fL,aw,cD];rfl
 rw[e];exact cy _
theorem t27(s:aS)(hb:s.length<=4611686018427387904):ai pg 27 [.str s,.str [10]]=M.pure (.str (dN s)):=by
 have h2:ai pg 56 [.str s,.str [10]]=M.pure (.str (dN s)):=by
  have hp:=t94 s hb;have hl:aM T 9 (.str [10])=some (.int .i64 1):=rfl;rw[C56,show cl aC (.str s)= .str s from rfl,show cl aC (.str [10])= .str [10]from rfl];have e:S56 (ai pg) ah (.str s) (.str [10])=M.pure (.str (dN s)):=by
   unfold dN;by_cases hg:s.getLast? = some 10
   ·have h1:1<=s.length:=by cases s with|nil=>cases hg|cons=>simp
    have hw:IntKind.i64.wrap ((s.length:Int)-1)=s.length-1:=bv (by omega) (by omega);have hs:=sD s (n:=(s.length:Int)-1) (by omega) (by omega);rw[show ((s.length:Int)-1).toNat=s.length-1 by omega,<- List.dropLast_eq_take]at hs;rw[Dm hg]at hp;simp -implicitDefEqProofs only[S56,hp,aw,ak,Dv,jG,hl,aj,A3,hw,hs,CW hg]
   ·rw[DF hg]at hp;simp -implicitDefEqProofs only[S56,hp,aw,ak,C2,Dk,if_neg hg]
  rw[e];exact gE _
 rw[C27,show cl aC (.str s)= .str s from rfl,show cl aC (.str [10])= .str [10]from rfl];simp -implicitDefEqProofs only[S27,h2,aw];exact gE _
theorem Ai(s:aS)(c:UInt8)(sv:Int)(h:s.length<4294967281)(hs:sv=0\/sv=1):ai pg 55 [.str s,.str [c],.int .i64 sv,.int .i64 (-1)]=M.pure (strs (cu c sv.toNat s)):=by
 rw[cW aW (E:=eI) rfl];have h2:(sv== 0||sv== 1)=true:=by rcases hs with rfl|rfl<;>rfl
 have h3:((-1:Int)== -1)=true:=rfl;simp only[eI,Dm h,h2,h3,Ex,CV];rfl
def t26(s:aS)(h:s.length<4294967281):ai pg 26 [.str s,.str [32]]=M.pure (strs (cu 32 0 s)):=by
 have hg:=Ai s 32 0 h (.inl rfl);rw[C26,show cl aC (.str s)= .str s from rfl,show cl aC (.str [32])= .str [32]from rfl];simp -implicitDefEqProofs only[S26,hg,aw];exact bE fun g=>by simp
theorem t25(s:aS)(h:s.length<4294967281):ai pg 25 [.str s,.str [10]]=M.pure (strs (cu 10 1 s)):=by
 have hg:=Ai s 10 1 h (.inr rfl);have hl:aM T 9 (.str [10])=some (.int .i64 1):=rfl;rw[C25,show cl aC (.str s)= .str s from rfl,show cl aC (.str [10])= .str [10]from rfl];simp -implicitDefEqProofs only[S25,hl,aj,hg,aw];exact bE fun g=>by simp
theorem uN(l:List aS)(x:aS)(hb:l.length<=1000000):∀(B A:List aS),A++B=l->
  ah (L58_0 (ai pg) ah) [strs l,.str x,.int .i64 l.length,.int .i64 A.length]=M.pure (.int .i64 (dJ (fun y=>y== x) B A.length))
 |[],A,e=>by
  rw[DX]at e;subst e;have h1:¬((A.length:Int)<(A.length:Int)):=by omega
  rw[FL58_0];simp -implicitDefEqProofs only[L58_0,ar,az,aB,aj,ak,CU,if_neg h1];rfl
 | y:: B,A,e=>by
  have hlen:A.length+(B.length+1)=l.length:=by rw[<- e];simp
  have h1:(A.length:Int)<(l.length:Int):=by omega
  have hix:=jk (l:=l) (n:=(A.length:Int)) (by omega) h1;have hxx:l[A.length]! = y:=by rw[Dl l A.length (by omega)];simp[<- e]
  rw[Dn,hxx]at hix;have hw:IntKind.i64.wrap ((A.length:Int)+1)=((A++[y]).length:Nat):=by rw[bv (by omega) (by omega)];simp
  have ih:=uN l x hb B (A++[y]) (by rw[<- e];simp);have hc:(x== y)=(y== x):=BEq.comm;rw[FL58_0];simp -implicitDefEqProofs only[L58_0,ar,az,aB,aj,ak,CU,CW h1,hix,q6,ry,hc];rw[show dJ (fun y=>y== x) (y:: B) A.length=if(y== x)=true then(A.length:Int)else dJ (fun y=>y== x) B ((A.length:Int)+1)from rfl];cases y== x with
  |true=>rfl
  |false=>
   simp -implicitDefEqProofs only[C2,Dk,bm,aj,hw,ih];simp
def t58(l:List aS)(x:aS)(hb:l.length<=1000000):ai pg 58 [strs l,.str x]=M.pure (.int .i64 (dJ (fun y=>y== x) l 0)):=by
 have h:=uN l x hb l [] rfl;have h':ah (L58_0 (ai pg) ah) [strs l,.str x,.int .i64 l.length,.int .i64 0]=M.pure (.int .i64 (dJ (fun y=>y== x) l 0)):=h;rw[C58,show cl aC (strs l)=strs l by simp,show cl aC (.str x)= .str x from rfl];simp -implicitDefEqProofs only[S58,cE,aj,h'];exact pL _ _
def jN{T:TT}{t e:Nat}{ti ei:TI}(ht:T t=some ti)(hk:ti.kind= .slice e)(he:T e=some ei)(es:List AV)(hok:bQ ei.size es=true){a:Int}(h0:0<=a)(h1:a<=es.length):cb T t (.sl es) (some (.int .i64 a)) none none=some (.sl (es.drop a.toNat)):=by
 unfold cb;rw[ht];simp[hk,he,bw,h0,h1,hok]
def A4{w:List aS}(h:1<=w.length):cb T 35 (strs w) (some (.int .i64 1)) none none=some (strs w.tail):=by
 have:=jN (T:=T) (t:=35) (e:=9) rfl rfl rfl (w.map AV.str) (tz w) (a:=1) (by omega) (by simp;omega)
 rw[show (w.map AV.str).drop (1:Int).toNat=w.tail.map AV.str by cases w<;>rfl]at this;exact this
theorem w5(cs:List AV)(h1:cs.length=20)(h2:cs.all lz=true):cb T 120 (.ip cs) none none none=some (.sl cs):=by
 have e:cb T 120 (.ip cs) none none none=if(1:Nat)=1/\cs.length=20/\0<20/\cs.all lz=true then some (.sl cs)else none:=rfl;rw[e,CW ⟨rfl,h1,by omega,h2⟩]
theorem pN(x0 x1 x2 x3 x4:AV)(op a:Int)(s m:aS)(l:List aS):K29_0 (ai pg) ah [x0,x1,x2,x3,x4,.int .i64 op,.int .i64 a,.str s,.str m,strs l]=M.pure (Ins.mk op a s m l).av:=by
 have h:aT 5 [] (Ins.mk op a s m l).av=M.pure (Ins.mk op a s m l).av:=rfl;have h':aT 5 [] (.agg [.int .i64 op,.int .i64 a,.str s,.str m,strs l])=M.pure (Ins.mk op a s m l).av:=h;simp -implicitDefEqProofs only[K29_0,ar,az,h',aw];rfl
def uG{l:List aS}(h:0<l.length):am T 35 (strs l) (.int .i64 0)=some (.ip (ab (.str (l.getD 0 [])))):=by
 have:=jk (l:=l) (n:=0) (by omega) (by omega)
 rw[this];cases l with
 |nil=>cases h
 |cons=>rfl
def Aq{l:List aS}(h:1<l.length):am T 35 (strs l) (.int .i64 1)=some (.ip (ab (.str (l.getD 1 [])))):=by
 have:=jk (l:=l) (n:=1) (by omega) (by omega)
 rw[this];rcases l with _|⟨a,_|⟨b,l⟩⟩
 ·simp at h
 ·simp at h
 ·rfl
def Ar{l:List aS}(h:2<l.length):am T 35 (strs l) (.int .i64 2)=some (.ip (ab (.str (l.getD 2 [])))):=by
 have:=jk (l:=l) (n:=2) (by omega) (by omega)
 rw[this];rcases l with _|⟨a,_|⟨b,_|⟨c,l⟩⟩⟩
 ·simp at h
 ·simp at h
 ·simp at h
 ·rfl
def r6{l:List aS}{n:Nat}(h:∀x∈l,x.length<=1000000000)(k:Nat):(l.getD k []).length<=1000000000:=by
 rw[Du];cases hk:l[k]? with
 |none=>simp
 |some x=>exact h x (D4 hk)
def lm(l:List aS):l.headD []=l.getD 0 []:=by cases l<;>rfl
theorem t29(w:List aS)(hne:0<w.length)(hb:w.length<=1000000)(hx:∀x∈w,x.length<=1000000000):ai pg 29 [strs w]=M.pure (cZ w).av:=by
 have hsl:=w5 (bj.map AV.str) rfl (by decide);have hiS:=t58 bj (w.getD 0 []) (by decide);have hi0:=uG (l:=w) hne;have htl:=A4 (w:=w) (by omega);have htx:∀x∈w.tail,x.length<=1000000000:=fun x h=>hx x (List.mem_of_mem_tail h);have htb:w.tail.length<=1000000:=by simp;omega
 have e0:(AV.sl []:AV)=strs []:=rfl;have hI:cZ w=(if dJ (fun x=>x== w.getD 0 []) bj 0=12 then⟨dJ (fun x=>x== w.getD 0 []) bj 0,0,[],[],w.tail⟩
   else if dJ (fun x=>x== w.getD 0 []) bj 0=13/\w.tail.length=1 then⟨dJ (fun x=>x== w.getD 0 []) bj 0,0,w.tail.getD 0 [],[],[]⟩
   else if dJ (fun x=>x== w.getD 0 []) bj 0=14/\w.tail.length=3 then⟨dJ (fun x=>x== w.getD 0 []) bj 0,dx (w.tail.getD 2 []),w.tail.getD 1 [],jh (w.tail.getD 0 []),[]⟩
   else if w.tail.length=1 then⟨dJ (fun x=>x== w.getD 0 []) bj 0,dx (w.tail.getD 0 []),[],[],[]⟩
   else⟨dJ (fun x=>x== w.getD 0 []) bj 0,0,[],[],[]⟩):=by
  unfold cZ;simp only[lm]
 have hsl':cb T 120 (.ip (bj.map AV.str)) none none none=some (strs bj):=hsl;simp only[bj,DC,ER]at hsl';rw[C29,show cl aC (strs w)=strs w by simp];have key:S29 (ai pg) ah (strs w)=M.pure (cZ w).av:=by
  rw[hI];have hfin:∀op:Int,∀r:List aS,(∀x∈r,x.length<=1000000000)->r.length<=1000000->True:=fun _ _ _ _=>trivial;simp -implicitDefEqProofs only[S29,hsl',aj,hi0,q6];rw[show (strs [[105,110,116],[98,111,111,108],[108,111,97,100],[115,116,111,114,101],[97,100,100],[115,117,98],[109,117,108],[108,101,115,115],[101,113],[110,111,116],[106,117,109,112],[102,97,108,115,101],[114,101,99],[102,105,101,108,100],[99,97,108,108],[97,99,116],[103,101,116],[115,101,116],[114,101,116,117,114,110],[112,111,112]])=strs bj from rfl,hiS];generalize dJ (fun x=>x== w.getD 0 []) bj 0=op;generalize w.tail=r at *;have n0:nth (ab (m6 op 0).av) 0= .int .i64 op:=rfl;have n1:nth (ab (m6 op 0).av) 1= .int .i64 0:=rfl;have n2:nth (ab (m6 op 0).av) 2= .str []:=rfl;have n3:nth (ab (m6 op 0).av) 3= .str []:=rfl;have n4:nth (ab (m6 op 0).av) 4=strs []:=rfl;have hcs:bN (strs r)=M.pure (strs r):=rfl;have hc1:∀s:aS,bN (.str s)=M.pure (.str s):=fun _=>rfl;have hc2:∀n:Int,bN (.int .i64 n)=M.pure (.int .i64 n):=fun _=>rfl;have u0:=t28 (r.getD 0 []) (by have:=r6 (n:=0) htx 0;omega);have u2:=t28 (r.getD 2 []) (by have:=r6 (n:=0) htx 2;omega);have up:=t60 (r.getD 0 []);simp -implicitDefEqProofs only[dU,aw,Co,aj,Cp,htl,jn,n0,n1,n2,n3,n4,eu,ak,CU];by_cases h12:op=12
  ·simp -implicitDefEqProofs only[CW h12,t59 r (by omega),aw,hcs,pN]
  simp -implicitDefEqProofs only[if_neg h12,cE,aj];have l1:decide (((r.length:Nat):Int)=1)=decide (r.length=1):=DL.2 (by omega);have l3:decide (((r.length:Nat):Int)=3)=decide (r.length=3):=DL.2 (by omega);simp -implicitDefEqProofs only[eu,aI,aw,ar,bV,aj,ak,l1,l3,CX,CU];by_cases h13:op=13/\r.length=1
  ·simp -implicitDefEqProofs only[CW h13,uG (l:=r) (by omega),q6,aj,hc1,aw,pN,e0]
  simp -implicitDefEqProofs only[if_neg h13];by_cases h14:op=14/\r.length=3
  ·simp -implicitDefEqProofs only[CW h14,uG (l:=r) (by omega),Aq (l:=r) (by omega),Ar (l:=r) (by omega),q6,aj,up,u2,dU,hc1,hc2,aw,pN,e0]
  simp -implicitDefEqProofs only[if_neg h14];by_cases h1:r.length=1
  ·have h1':(r.length:Int)=1:=by omega
   simp -implicitDefEqProofs only[CW h1,CW h1',uG (l:=r) (by omega),q6,aj,u0,hc2,aw,pN,e0]
  ·have h1':¬(r.length:Int)=1:=by omega
   simp -implicitDefEqProofs only[if_neg h1,if_neg h1',pN,e0]
 rw[key];exact bE fun g=>kT g _
def hG(s:aS):List AV:=s.map fun b=>AV.int .u8 b.toNat
def fE(s:aS):List AV:=s.map fun b=>AV.byt 5 b.toNat
def yh(h:Hp)(l:Nat)(s:aS):Prop:=(s=[]/\(h[l]? = some [.nilb 71,.hn]\/h[l]? = some [.hp l 0,.hn]))\/(s≠[]/\∃lb,lb≠l/\h[l]? = some [.hp l 0,.hs lb 0 s.length 1 false]/\h[lb]? = some (fE s))
def o3(s:aS):kQ 5 (hG s)=some (fE s):=by
 induction s with
 |nil=>rfl
 |cons b s ih=>
  show (kQ 5 (hG s)).map (AV.byt 5 b.toNat:: ·)=_;rw[ih];rfl
def sV(s:aS):fw 5 (fE s)=some s:=by
 induction s with
 |nil=>rfl
 | cons b s ih=>
  show (match mN 5 (.byt 5 b.toNat),fw 5 (fE s)with|some b,some l=>some (b:: l)|_,_=>none)=_;have hb:mN 5 (.byt 5 (b.toNat:Int))=some b:=by
   have h1:(b.toNat:Int)<256:=by have:=b.toNat_lt;omega
   simp[mN,h1]
  rw[ih,hb]
def vV(s:aS):(fE s).all (ke 5)=true:=by
 rw[C6];intro x hx;obtain⟨b,_,rfl⟩:=Eg.1 hx;rfl
def tP(s:aS)(hs:s≠[])(hb:s.length<=140737488355328)(h:Hp):kN T 69 .hn (.str s) h= .ok (.hs h.length 0 s.length 1 false) (h++[fE s]):=by
 show (match kQ 5 (hG s)with
  |none=>R.fail
  |some cs'=>bif (hG s).isEmpty then R.ok AV.hn h else bif decide ((hG s).length<=140737488355328)then R.ok (AV.hs h.length 0 (hG s).length 1 false) (h++[cs'])else .fail)=_
 rw[o3];have e:(hG s).isEmpty=false:=by cases s with|nil=>exact absurd rfl hs|cons=>rfl
 have e2:(hG s).length=s.length:=by simp[hG]
 simp[e,e2,hb]
theorem sK(h:Hp):kN T 69 .hn (.str []) h= .ok .hn h:=rfl
theorem sL(s t:aS)(hs:s≠[])(hb:s.length+t.length<=140737488355328)(h:Hp)(lb:Nat)(hl:h[lb]? = some (fE s)):kN T 69 (.hs lb 0 s.length 1 false) (.str t) h=
  if t=[]then R.ok (AV.hs lb 0 s.length 1 false) h else .ok (AV.hs h.length 0 (s.length+t.length) 1 false) ((h.set lb [])++[fE (s++t)]):=by
 show (match kQ 5 (hG t)with
  |none=>R.fail
  |some cs'=>match h[lb]? with
   |none=>.fail
   | some cs=>bif cs.all (ke 5)&&decide (s.length<=cs.length)&&decide (0<s.length)&&decide (s.length+(hG t).length<=140737488355328)then
     (bif (hG t).isEmpty then R.ok (AV.hs lb 0 s.length 1 false) h
     else .ok (AV.hs h.length 0 (s.length+(hG t).length) 1 false) ((h.set lb [])++[cs.take s.length++cs']))else .fail)=_
 have h0:0<s.length:=D7.2 hs;have hlen:(fE s).length=s.length:=by simp[fE]
 have hlt:(hG t).length=t.length:=by simp[hG]
 rw[o3,hl];simp only[vV,hlen,hlt,h0,hb,EX,C0,Ex,CV];have htk:(fE s).take s.length=fE s:=by rw[<- hlen,E0]
 cases t with
 |nil=>rfl
 |cons c t=>
  have e:(hG (c:: t)).isEmpty=false:=rfl;simp only[e,CY,htk];rw[if_neg (by simp)];simp[fE]
theorem B7(l:Nat):fu (.hp l 0)=some (.hp l 0):=rfl
theorem fB1(l:Nat):aa T 71 (.hp l 0) 1=some (.hp l 1):=rfl
def t21{h:Hp}{l:Nat}{s:aS}(H:yh h l s)(t:aS)(hb:s.length+t.length<=140737488355328):∃h',ai pg 21 [.hp l 0,.str t] h= .ok (.tup [.int .i64 t.length,.nili]) h'/\yh h' l (s++t):=by
 have hcc:∀y:AV,(h[l]? = some [.nilb 71,y]\/h[l]? = some [.hp l 0,y])->ai pg 53 [.hp l 0] h= .ok (.tup []) (h.set l [.hp l 0,y]):=by
  intro y hy;rw[cW aW (E:=eU [(71,2)]) rfl];show (match h[l]? with|some cs=>(match z8 [(71,2)] l cs with|some cs'=>R.ok (AV.tup []) (h.set l cs')|none=>.fail)|none=>.fail)=_;rcases hy with hy|hy<;>rw[hy]
  ·rfl
  ·show (match (bif Nat.beq l l&&Nat.beq 0 0 then some [AV.hp l 0,y]else none)with|some cs'=>R.ok (AV.tup []) (h.set l cs')|none=>.fail)=_;rw[Fc];rfl
 have hgo:∀(y z:AV)(h1 h2:Hp),ai pg 53 [.hp l 0] h= .ok (.tup []) h1->h1[l]? = some [.hp l 0,y]->kN T 69 y (.str t) h1= .ok z h2->h2[l]? = some [.hp l 0,y]->bI 1 z=true->ab z=[z]->
   ai pg 21 [.hp l 0,.str t] h= .ok (.tup [.int .i64 t.length,.nili]) (h2.set l [.hp l 0,z]):=by
  intro y z h1 h2 e1 r1 e2 r2 ok ac;have ld:di T 69 (.hp l 1) h1= .ok y h1:=rc (T:=T) (t:=69) rfl rfl r1 rfl;have stt:=oE (T:=T) (t:=69) rfl (v:=z) r2 ok (show 1+1<=2 by omega) (by decide);rw[C21];simp only[S21,bd e1,B7,aj,fB1];rw[bd ld,bd e2,bd stt,ac];rfl
 rcases H with⟨rfl,H⟩|⟨hs,lb,hne,H,Hb⟩
 ·have e1:=hcc .hn H;have hl:l<h.length:=by rcases H with H|H<;>exact cQ H
  have r1:(h.set l [AV.hp l 0,.hn])[l]? = some [.hp l 0,.hn]:=by rw[Dj,CW rfl,CW hl]
  by_cases ht:t=[]
  ·subst ht;refine⟨_,hgo .hn .hn _ _ e1 r1 (sK _) r1 rfl rfl,.inl ⟨rfl,.inr ?_⟩⟩;rw[Dj,CW rfl,CW (by simpa using hl)]
  ·have e2:=tP t ht (by simpa using hb) (h.set l [AV.hp l 0,.hn]);have r2:(h.set l [AV.hp l 0,.hn]++[fE t])[l]? = some [.hp l 0,.hn]:=by rw[C5 (by simpa using hl)];exact r1
   refine⟨_,hgo .hn _ _ _ e1 r1 e2 r2 rfl rfl,.inr ⟨by simpa using ht,h.length,by omega,?_,?_⟩⟩
   ·rw[Dj,CW rfl,CW (by simp;omega)];simp
   ·rw[Dj,if_neg (by omega),Dd (by simp)];simp
 ·have e1:=hcc _ (.inr H);have hl:l<h.length:=cQ H;have hlb:lb<h.length:=cQ Hb;have hsame:h.set l [AV.hp l 0,.hs lb 0 s.length 1 false]=h:=ED fun i=>by
   rw[Dj];split
   ·rename_i hi;subst hi;exact H.symm
   ·rfl
  rw[hsame]at e1;have e2:=sL s t hs hb h lb Hb;by_cases ht:t=[]
  ·subst ht;rw[CW rfl]at e2;refine⟨_,hgo _ _ _ _ e1 H e2 H rfl rfl,.inr ⟨by simpa using hs,lb,hne,?_,?_⟩⟩
   ·rw[Dj,CW rfl,CW hl];simp
   ·rw[Dj,if_neg (by omega),Hb];simp
  ·rw[if_neg ht]at e2;have r2:(h.set lb []++[fE (s++t)])[l]? = some [.hp l 0,.hs lb 0 s.length 1 false]:=by
    rw[C5 (by simpa using hl),Dj,if_neg hne,H]
   refine⟨_,hgo _ _ _ _ e1 H e2 r2 rfl rfl,.inr ⟨by simp[hs],h.length,by omega,?_,?_⟩⟩
   ·rw[Dj,CW rfl,CW (by simp;omega)];simp
   ·rw[Dj,if_neg (by omega),Dd (by simp)];simp
def t24{h:Hp}{l:Nat}{s:aS}(H:yh h l s)(hb:s.length<=140737488355328):∃h',ai pg 24 [.hp l 0] h= .ok (.str s) h':=by
 rw[cW aW (E:=cV 5) rfl];rcases H with⟨rfl,H⟩|⟨hs,lb,hne,H,Hb⟩
 ·refine⟨h,?_⟩;show (match h[l]? with|some cs=>_|none=>R.fail)=_;rcases H with H|H<;>rw[H]<;>rfl
 ·refine⟨h.set lb [],?_⟩;have h0:0<s.length:=D7.2 hs;have hst:stA [AV.hp l 0,.hs lb 0 s.length 1 false]=some (some (lb,s.length)):=by
   show (bif (Nat.beq 0 0&&Nat.beq 1 1&&!false&&Nat.blt 0 s.length&&Nat.ble s.length 140737488355328)then some (some (lb,s.length))else none)=_;have h1:Nat.blt 0 s.length=true:=E5 h0;have h2:Nat.ble s.length 140737488355328=true:=E5 hb;rw[h1,h2];rfl
  show (match h[l]? with|some cs=>(match stA cs with|some none=>R.ok (AV.str []) h|some (some (lb,len))=>(match h[lb]? with|some bs=>(match (bif Nat.ble len bs.length then fw 5 (bs.take len)else none)with|some s=>.ok (.str s) (h.set lb [])|none=>.fail)|none=>.fail)|none=>.fail)|none=>R.fail)=_;rw[H];simp only[hst,Hb];have hlen:(fE s).length=s.length:=by simp[fE]
  have h2:Nat.ble s.length (fE s).length=true:=E5 (by omega);have htk:(fE s).take s.length=fE s:=by rw[<- hlen,E0]
  simp only[h2,CV,htk,sV]
theorem ir:∀(l:List aS),(∀x∈l,x.length<=21)->(cS l).length<=22*l.length
 |[],_=>by simp[cS]
 |[a],h=>by have:=h a (by simp);simp[cS];omega
 |a:: b:: l,h=>by
  have ih:=ir (b:: l) (fun x hx=>h x (by simp[hx]));have ha:=h a (by simp);show (a++32:: cS (b:: l)).length<=_;simp only[Dh,Dq]at ih |-;omega
def lF{len locals:Int}{i:Ins}(h:aP len locals i=true):(dK i).length<=200:=by
 obtain⟨p0,p1⟩:=fJ h;have hw:=qv p0 p1;have hi:=eJ i.a;have key:(∀x∈fp i,x.length<=21)/\(fp i).length<=9:=by
  unfold fp;split
  ·rename_i ho;have hs:bD i.s=true:=by
    simp[aP,ho]at h;exact h.1.1.1
   have:=b9 hs
   refine⟨fun x hx=>?_,by simp⟩;simp only[De,D2,Ev]at hx;rcases hx with rfl|rfl<;>omega
  split
  ·rename_i ho;simp[aP,ho]at h;obtain⟨⟨⟨_,hs⟩,hm⟩,_⟩:=h
   have:=b9 hs
   refine⟨fun x hx=>?_,by simp⟩;simp only[De,D2,Ev]at hx;rcases hx with rfl|rfl|rfl|rfl
   ·omega
   ·split
    ·simp
    ·rename_i hne
     have:=b9 (hm.resolve_left hne)
     omega
   ·omega
   ·omega
  split
  ·rename_i ho;have hn:dB i.names=true:=by
    simp[aP,ho]at h;exact h.1.1.1
   simp only[dB,CX,C6,CU]at hn;refine⟨fun x hx=>?_,by simp;omega⟩;rcases De.1 hx with rfl|hx
   ·omega
   ·have:=b9 (hn.1.1 x hx)
    omega
  split
  ·refine⟨fun x hx=>?_,by simp⟩;rw[Dp]at hx;subst hx;omega
  ·refine⟨fun x hx=>?_,by simp⟩;simp only[De,D2,Ev]at hx;rcases hx with rfl|rfl<;>omega
 have:=ir _ key.1
 unfold dK;simp only[Dh,Ea];omega
def y6(i:Ins):bC 5 i.av=M.pure i.av:=by rw[bS (rfl:bI 5 i.av=true)];rfl
def Ch(c:Cod):bC 4 c.av=M.pure c.av:=by rw[bS (rfl:bI 4 c.av=true)];rfl
theorem wK(c:Cod):ap T 28 (.ip (ab c.av))=some c.av:=rfl
theorem uR(v2:List AV->M AV)(x1 x2:AV){k:Nat}(hk:k<=1000000){c:Cod}(K:CodOk c)(hc:c.code.length<=10000):∀(B A:List Ins)(h:Hp)(s:aS),A++B=c.code->yh h 0 s->s.length+200*B.length<=1000000000000->
  ∃h',yh h' 0 (s++(B.map dK).flatten)/\ah (L9_0 (ai pg) ah v2) [.hp 0 0,x1,x2,.int .i64 (k:Int),f4 c.code,.int .i64 c.code.length,.int .i64 A.length] h=v2 [.hp 0 0,x1,x2,.int .i64 ((k+1:Nat):Int)] h'
 |[],A,h,s,e,H,_=>by
  rw[DX]at e;subst e;refine⟨h,by simpa using H,?_⟩;have h1:¬((c.code.length:Int)<(c.code.length:Int)):=by omega
  have hw:IntKind.i64.wrap ((k:Int)+1)=((k+1:Nat):Int):=by rw[bv (by omega) (by omega)];omega
  rw[FL9_0];simp -implicitDefEqProofs only[L9_0,ar,az,aB,aj,ak,CU,if_neg h1,bm,hw]
 |i:: B,A,h,s,e,H,hb=>by
  have hlen:A.length+(B.length+1)=c.code.length:=by rw[<- e];simp
  have hi:=K.ins i (by rw[<- e];simp);have h1:(A.length:Int)<(c.code.length:Int):=by omega
  have hix:=zd (l:=c.code) (n:=A.length) (by omega);rw[Dl c.code A.length (by omega),show c.code[A.length]'(by omega)=i by simp[<- e]]at hix;have hw:IntKind.i64.wrap ((A.length:Int)+1)=((A++[i]).length:Nat):=by rw[bv (by omega) (by omega)];simp
  have hl:=lF hi.1;simp only[Dq]at hb;obtain⟨h2,e2,H2⟩:=t21 H (dK i) (by omega);obtain⟨h3,H3,e3⟩:=uR v2 x1 x2 hk K hc B (A++[i]) h2 (s++dK i) (by rw[<- e];simp) H2 (by simp;omega);refine⟨h3,by simpa using H3,?_⟩;rw[FL9_0];simp -implicitDefEqProofs only[L9_0,ar,az,aB,aj,ak,CU,CW h1,hix,vR,y6,aw,t23 hi.1 hi.2];rw[bd e2];simp -implicitDefEqProofs only[bm,aj,hw];exact e3
theorem pE{c:Cod}(K:CodOk c):(cS (fo c)++[10]).length<=100:=by
 have h1:=b9 K.name;have h2:=eJ c.params;have h3:=eJ c.locals
 have:=ir (fo c) (fun x hx=>by
  simp only[fo,De,D2,Ev]at hx;rcases hx with rfl|rfl|rfl|rfl
  ·simp
  ·omega
  ·omega
  ·omega)
 have h4:(fo c).length=4:=rfl;simp only[Dh,Ea];omega
theorem uS{l:List Cod}(R:Cod->Bool)(hl:l.length<=10000)(hR:∀c∈l,ai pg 8 [c.av]=M.pure (.bool (R c))/\(R c=true->CodOk c)/\c.code.length<=10000):∀(B A:List Cod)(h:Hp)(s:aS),A++B=l->yh h 0 s->s.length+2000200*B.length<=100000000000->
  ∃h',ah (L9_1 (ai pg) ah) [.hp 0 0,bi l,.int .i64 l.length,.int .i64 A.length] h= .ok (.str (if B.all R=true then s++fq B else[])) h'
 |[],A,h,s,e,H,hb=>by
  rw[DX]at e;subst e;have h1:¬((A.length:Int)<(A.length:Int)):=by omega
  obtain⟨h',e'⟩:=t24 H (by omega);refine⟨h',?_⟩;rw[FL9_1];simp -implicitDefEqProofs only[L9_1,ar,az,aB,aj,ak,CU,if_neg h1];rw[bd e'];simp[M.pure,fq]
 | c :: B,A,h,s,e,H,hb=>by
  have hlen:A.length+(B.length+1)=l.length:=by rw[<- e];simp
  obtain⟨r1,r2,r3⟩:=hR c (by rw[<- e];simp);have h1:(A.length:Int)<(l.length:Int):=by omega
  have hix:=wI (l:=l) (n:=A.length) (by omega);rw[Dl l A.length (by omega),show l[A.length]'(by omega)=c by simp[<- e]]at hix;simp only[Dq]at hb;cases hrc:R c with
  |false=>
   refine⟨h,?_⟩;rw[FL9_1];simp -implicitDefEqProofs only[L9_1,ar,az,aB,aj,ak,CU,CW h1,hix,wK,Ch,aw,r1,hrc,kw,Et,Dv,Ef,EU,C2,Dk];rfl
  | true=>
   have K:=r2 hrc;have hh:=pE K;have hn:=b9 K.name;have hp:=eJ c.params;have hq:=eJ c.locals;obtain⟨h2,e2,H2⟩:=t21 H (cS (fo c)++[10]) (by omega);have c1:ao T .add 9 (.str [102,117,110,99,32]) (.str c.func)=some (.str ([102,117,110,99,32]++c.func)):=fV _ _ (by simp;omega);have c2:=fV ([102,117,110,99,32]++c.func) [32] (by simp;omega);have c3:=fV ([102,117,110,99,32]++c.func++[32]) (bA c.params) (by simp;omega);have c4:=fV ([102,117,110,99,32]++c.func++[32]++bA c.params) [32] (by simp;omega);have c5:=fV ([102,117,110,99,32]++c.func++[32]++bA c.params++[32]) (bA c.locals) (by simp;omega);have c6:=fV ([102,117,110,99,32]++c.func++[32]++bA c.params++[32]++bA c.locals) [10] (by simp;omega);have hT:[102,117,110,99,32]++c.func++[32]++bA c.params++[32]++bA c.locals++[10]=cS (fo c)++[10]:=by simp[fo,cS]
   rw[hT]at c6;obtain⟨h3,H3,e3⟩:=uR (ah (L9_1 (ai pg) ah)) (bi l) (.int .i64 l.length) (k:=A.length) (by omega) K r3 c.code [] h2 _ rfl H2 (by simp only[Dh]at hh |-;omega);have hcl:((c.code.map dK).flatten).length<=200*c.code.length:=by
    have key:∀is:List Ins,(∀i∈is,i∈c.code)->((is.map dK).flatten).length<=200*is.length:=by
     intro is
     induction is with
     |nil=>intro _;simp
     |cons i is ih=>
      intro hs;have a1:=lF (K.ins i (hs i (by simp))).1;have a2:=ih (fun j hj=>hs j (by simp[hj]));simp only[DC,Fx,Dh,Dq];omega
    exact key c.code fun i hi=>hi
   have ih:=uS R hl hR B (A++[c]) h3 _ (by rw[<- e];simp) H3 (by simp only[Dh]at hh |-;omega);obtain⟨h4,e4⟩:=ih;refine⟨h4,?_⟩;rw[FL9_1];simp -implicitDefEqProofs only[L9_1,ar,az,aB,aj,ak,CU,CW h1,hix,wK,Ch,aw,r1,hrc,kw,D3,C2,Dk,fK0,zf,fK1,Bf,fK2,AA,fK3,m9,hJ,c1,c2,c3,c4,c5,c6,t22 c.params K.par.1 K.par.2,t22 c.locals K.loc.1 K.loc.2];rw[bd e2];have e3':ah (L9_0 (ai pg) ah (ah (L9_1 (ai pg) ah))) [.hp 0 0,bi l,.int .i64 l.length,.int .i64 A.length,f4 c.code,.int .i64 c.code.length,.int .i64 0] h2=_:=e3;rw[e3'];have e5:((A++[c]).length:Nat)=A.length+1:=by simp
   rw[e5]at e4;rw[e4];simp only[Ef,hrc,En];cases B.all R<;>simp[fq,iB]
theorem t9{l:List Cod}(R:Cod->Bool)(hl:l.length<=10000)(hR:∀c∈l,ai pg 8 [c.av]=M.pure (.bool (R c))/\(R c=true->CodOk c)/\c.code.length<=10000):ai pg 9 [bi l]=M.pure (.str (if l.all R=true then fq l else[])):=by
 have hb0:yh [[AV.nilb 71,.hn]] 0 []:=.inl ⟨rfl,.inl rfl⟩;obtain⟨h',e'⟩:=uS R hl hR l [] [[AV.nilb 71,.hn]] [] rfl hb0 (by simp;omega);have nb:pX 71 [.nilp,.hn] []= .ok (.hp 0 0) [[AV.nilb 71,.hn]]:=rfl;have hcl:cl aC (bi l)=bi l:=by simp[bi,cl,bT aC Cod.av (gA aC)]
 have key:S9 (ai pg) ah (bi l) []= .ok (.str (if l.all R=true then fq l else[])) h':=by
  simp -implicitDefEqProofs only[S9];rw[bd nb];simp -implicitDefEqProofs only[jF,aj];exact e'
 rw[C9,hcl];funext h;unfold aZ;rw[key];rfl
def Aw(i:Ins)(h:¬(i.op=0\/i.op=1\/i.op=2\/i.op=16))(h2:¬(i.op=4\/i.op=5\/i.op=6\/i.op=7\/i.op=8)):∀b,b=decide (i.op=9\/i.op=13\/i.op=15\/i.op=17)->
  K49_0 (ai pg) ah [.ip (ab i.av),.int .i64 i.op,.bool b]=M.pure (.tup [.int .i64 (bo i).1,.int .i64 (bo i).2]):=by
 intro b hb;unfold bo;rw[if_neg h,if_neg h2];by_cases h9:i.op=9\/i.op=13\/i.op=15\/i.op=17
 ·rw[Dm h9]at hb;subst hb;rw[CW h9];simp -implicitDefEqProofs only[K49_0,ar,az,ak,Dv]
 rw[DF h9]at hb;subst hb;rw[if_neg h9];simp -implicitDefEqProofs only[K49_0,ar,az,ak,C2,Dk,eu,aj,CU];by_cases h12:i.op=12
 ·simp -implicitDefEqProofs only[CW h12,fJ4,wJ,cE,aj]
 simp -implicitDefEqProofs only[if_neg h12];by_cases h14:i.op=14
 ·simp -implicitDefEqProofs only[CW h14,fJ1,yJ,aj]
 simp -implicitDefEqProofs only[if_neg h14];by_cases h10:i.op=10
 ·simp -implicitDefEqProofs only[CW h10]
 ·simp -implicitDefEqProofs only[if_neg h10]
def Ax(i:Ins)(h:¬(i.op=0\/i.op=1\/i.op=2\/i.op=16)):∀b,b=decide (i.op=4\/i.op=5\/i.op=6\/i.op=7\/i.op=8)->
  K49_1 (ai pg) ah [.ip (ab i.av),.int .i64 i.op,.bool b]=M.pure (.tup [.int .i64 (bo i).1,.int .i64 (bo i).2]):=by
 intro b hb;by_cases h2:i.op=4\/i.op=5\/i.op=6\/i.op=7\/i.op=8
 ·rw[Dm h2]at hb;subst hb;unfold bo;rw[if_neg h,CW h2];simp -implicitDefEqProofs only[K49_1,ar,az,ak,Dv]
 rw[DF h2]at hb;subst hb;have k:=Aw i h h2;simp -implicitDefEqProofs only[K49_1,ar,az,ak,C2,Dk,jn,eu,aj,CU];by_cases h9:i.op=9
 ·rw[CW h9];exact k _ (by simp[h9])
 rw[if_neg h9];by_cases h13:i.op=13
 ·rw[CW h13];exact k _ (by simp[h13])
 rw[if_neg h13];by_cases h15:i.op=15
 ·rw[CW h15];exact k _ (by simp[h15])
 rw[if_neg h15];exact k _ (by simp[h9,h13,h15])
def Ay(i:Ins):∀b,b=decide (i.op=0\/i.op=1\/i.op=2\/i.op=16)->
  K49_2 (ai pg) ah [.ip (ab i.av),.int .i64 i.op,.bool b]=M.pure (.tup [.int .i64 (bo i).1,.int .i64 (bo i).2]):=by
 intro b hb;by_cases h:i.op=0\/i.op=1\/i.op=2\/i.op=16
 ·rw[Dm h]at hb;subst hb;unfold bo;rw[CW h];simp -implicitDefEqProofs only[K49_2,ar,az,ak,Dv]
 rw[DF h]at hb;subst hb;have k:=Ax i h;simp -implicitDefEqProofs only[K49_2,ar,az,ak,C2,Dk,jn,eu,aj,CU];by_cases h4:i.op=4
 ·rw[CW h4];exact k _ (by simp[h4])
 rw[if_neg h4];by_cases h5:i.op=5
 ·rw[CW h5];exact k _ (by simp[h5])
 rw[if_neg h5];by_cases h6:i.op=6
 ·rw[CW h6];exact k _ (by simp[h6])
 rw[if_neg h6];by_cases h7:i.op=7
 ·rw[CW h7];exact k _ (by simp[h7])
 rw[if_neg h7];exact k _ (by simp[h4,h5,h6,h7])
def t49(i:Ins):ai pg 49 [i.av]=M.pure (.tup [.int .i64 (bo i).1,.int .i64 (bo i).2]):=by
 have k:=Ay i;have key:S49 (ai pg) ah i.av=M.pure (.tup [.int .i64 (bo i).1,.int .i64 (bo i).2]):=by
  simp -implicitDefEqProofs only[S49,fJ0,xR,aj,ak,jn,eu,CU];by_cases h0:i.op=0
  ·rw[CW h0];exact k _ (by simp[h0])
  rw[if_neg h0];by_cases h1:i.op=1
  ·rw[CW h1];exact k _ (by simp[h1])
  rw[if_neg h1];by_cases h2:i.op=2
  ·rw[CW h2];exact k _ (by simp[h2])
  rw[if_neg h2];exact k _ (by simp[h0,h1,h2])
 rw[C49,kT,key];exact bE fun g=>by simp[cl,db]
def t50(c:Cod){k:Nat}(hk:k<c.code.length)(hb:c.code.length<=1000000):ai pg 50 [c.av,.int .i64 (k:Int)]=M.pure (ints (eZ c.code[k] k)):=by
 have hix:=zd hk;rw[Dl c.code k hk]at hix;have hw:IntKind.i64.wrap ((k:Int)+1)=k+1:=bv (by omega) (by omega);have b1:∀a:Int,bb T 60 1 [(0,.int .i64 a)]=some (ints [a]):=fun _=>rfl;have b2:∀a b:Int,bb T 60 2 [(0,.int .i64 a),(1,.int .i64 b)]=some (ints [a,b]):=fun _ _=>rfl;have key:S50 (ai pg) ah c.av (.int .i64 (k:Int))=M.pure (ints (eZ c.code[k] k)):=by
  generalize c.code[k]=i at hix |-;unfold eZ;simp -implicitDefEqProofs only[S50,fK3,m9,aj,hix,vR,y6,aw,fJ0,xR,eu,ak,CU];by_cases h18:i.op=18
  ·simp -implicitDefEqProofs only[CW h18];rfl
  simp -implicitDefEqProofs only[if_neg h18];by_cases h10:i.op=10
  ·simp -implicitDefEqProofs only[CW h10,fJ1,yJ,aj,b1]
  simp -implicitDefEqProofs only[if_neg h10];by_cases h11:i.op=11
  ·simp -implicitDefEqProofs only[CW h11,fJ1,yJ,aj,bm,hw,b2]
  ·simp -implicitDefEqProofs only[if_neg h11,bm,aj,hw,b1]
 rw[C50,gA,show cl aC (.int .i64 (k:Int))= .int .i64 (k:Int)from rfl,key];exact bE fun g=>by simp
end Go.Proofs.YtpmcemjkdkbicaaGreatDoor
