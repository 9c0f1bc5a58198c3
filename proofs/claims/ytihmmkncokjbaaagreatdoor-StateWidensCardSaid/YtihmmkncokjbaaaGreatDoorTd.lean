/- What the functions compute, part 4. Conditions: bounds. -/
import Derived.Test.YtihmmkncokjbaaaGreatDoorTc
import Derived.Test.YtihmmkncokjbaaaGreatDoorLd
set_option linter.defProp false
set_option linter.unusedSimpArgs false
set_option linter.unusedVariables false
namespace Go.Proofs.YtihmmkncokjbaaaGreatDoor
open Go Go.Av Go.Av.Ap
set_option maxRecDepth 100000
@[simp] theorem FA27_0(cs:List AV):aa T 27 (.ip cs) 0=some (.ip (cs.drop 0)):=rfl
@[simp] theorem FH27_0(l k:Nat):aa T 27 (.hp l k) 0=some (.hp l (k+0)):=rfl
@[simp] theorem FA27_1(cs:List AV):aa T 27 (.ip cs) 1=some (.ip (cs.drop 1)):=rfl
@[simp] theorem FH27_1(l k:Nat):aa T 27 (.hp l k) 1=some (.hp l (k+1)):=rfl
@[simp] theorem FA27_2(cs:List AV):aa T 27 (.ip cs) 2=some (.ip (cs.drop 2)):=rfl
@[simp] theorem FH27_2(l k:Nat):aa T 27 (.hp l k) 2=some (.hp l (k+2)):=rfl
@[simp] theorem FA29_0(cs:List AV):aa T 29 (.ip cs) 0=some (.ip (cs.drop 0)):=rfl
@[simp] theorem FH29_0(l k:Nat):aa T 29 (.hp l k) 0=some (.hp l (k+0)):=rfl
@[simp] theorem FA29_2(cs:List AV):aa T 29 (.ip cs) 2=some (.ip (cs.drop 2)):=rfl
@[simp] theorem FH29_2(l k:Nat):aa T 29 (.hp l k) 2=some (.hp l (k+2)):=rfl
@[simp] theorem FA29_4(cs:List AV):aa T 29 (.ip cs) 4=some (.ip (cs.drop 4)):=rfl
@[simp] theorem FH29_4(l k:Nat):aa T 29 (.hp l k) 4=some (.hp l (k+4)):=rfl
@[simp] theorem FA29_5(cs:List AV):aa T 29 (.ip cs) 5=some (.ip (cs.drop 5)):=rfl
@[simp] theorem FH29_5(l k:Nat):aa T 29 (.hp l k) 5=some (.hp l (k+5)):=rfl
@[simp] theorem FA29_6(cs:List AV):aa T 29 (.ip cs) 6=some (.ip (cs.drop 6)):=rfl
@[simp] theorem FH29_6(l k:Nat):aa T 29 (.hp l k) 6=some (.hp l (k+6)):=rfl
@[simp] theorem FA35_0(cs:List AV):aa T 35 (.ip cs) 0=some (.ip (cs.drop 0)):=rfl
@[simp] theorem FH35_0(l k:Nat):aa T 35 (.hp l k) 0=some (.hp l (k+0)):=rfl
@[simp] theorem FA35_1(cs:List AV):aa T 35 (.ip cs) 1=some (.ip (cs.drop 1)):=rfl
@[simp] theorem FH35_1(l k:Nat):aa T 35 (.hp l k) 1=some (.hp l (k+1)):=rfl
@[simp] theorem FA37_0(cs:List AV):aa T 37 (.ip cs) 0=some (.ip (cs.drop 0)):=rfl
@[simp] theorem FH37_0(l k:Nat):aa T 37 (.hp l k) 0=some (.hp l (k+0)):=rfl
@[simp] theorem FA37_1(cs:List AV):aa T 37 (.ip cs) 1=some (.ip (cs.drop 1)):=rfl
@[simp] theorem FH37_1(l k:Nat):aa T 37 (.hp l k) 1=some (.hp l (k+1)):=rfl
@[simp] theorem FA45_0(cs:List AV):aa T 45 (.ip cs) 0=some (.ip (cs.drop 0)):=rfl
@[simp] theorem FH45_0(l k:Nat):aa T 45 (.hp l k) 0=some (.hp l (k+0)):=rfl
@[simp] theorem FA45_1(cs:List AV):aa T 45 (.ip cs) 1=some (.ip (cs.drop 1)):=rfl
@[simp] theorem FH45_1(l k:Nat):aa T 45 (.hp l k) 1=some (.hp l (k+1)):=rfl
@[simp] theorem FA45_2(cs:List AV):aa T 45 (.ip cs) 2=some (.ip (cs.drop 2)):=rfl
@[simp] theorem FH45_2(l k:Nat):aa T 45 (.hp l k) 2=some (.hp l (k+2)):=rfl
@[simp] theorem FA45_3(cs:List AV):aa T 45 (.ip cs) 3=some (.ip (cs.drop 3)):=rfl
@[simp] theorem FH45_3(l k:Nat):aa T 45 (.hp l k) 3=some (.hp l (k+3)):=rfl
@[simp] theorem FA66_0(cs:List AV):aa T 66 (.ip cs) 0=some (.ip (cs.drop 0)):=rfl
@[simp] theorem FH66_0(l k:Nat):aa T 66 (.hp l k) 0=some (.hp l (k+0)):=rfl
@[simp] theorem FA66_1(cs:List AV):aa T 66 (.ip cs) 1=some (.ip (cs.drop 1)):=rfl
@[simp] theorem FH66_1(l k:Nat):aa T 66 (.hp l k) 1=some (.hp l (k+1)):=rfl
@[simp] theorem FA66_2(cs:List AV):aa T 66 (.ip cs) 2=some (.ip (cs.drop 2)):=rfl
@[simp] theorem FH66_2(l k:Nat):aa T 66 (.hp l k) 2=some (.hp l (k+2)):=rfl
@[simp] theorem FA66_3(cs:List AV):aa T 66 (.ip cs) 3=some (.ip (cs.drop 3)):=rfl
@[simp] theorem FH66_3(l k:Nat):aa T 66 (.hp l k) 3=some (.hp l (k+3)):=rfl
@[simp] theorem FA66_4(cs:List AV):aa T 66 (.ip cs) 4=some (.ip (cs.drop 4)):=rfl
@[simp] theorem FH66_4(l k:Nat):aa T 66 (.hp l k) 4=some (.hp l (k+4)):=rfl
@[simp] theorem FA66_5(cs:List AV):aa T 66 (.ip cs) 5=some (.ip (cs.drop 5)):=rfl
@[simp] theorem FH66_5(l k:Nat):aa T 66 (.hp l k) 5=some (.hp l (k+5)):=rfl
@[simp] theorem FA68_0(cs:List AV):aa T 68 (.ip cs) 0=some (.ip (cs.drop 0)):=rfl
@[simp] theorem FH68_0(l k:Nat):aa T 68 (.hp l k) 0=some (.hp l (k+0)):=rfl
@[simp] theorem FA68_1(cs:List AV):aa T 68 (.ip cs) 1=some (.ip (cs.drop 1)):=rfl
@[simp] theorem FH68_1(l k:Nat):aa T 68 (.hp l k) 1=some (.hp l (k+1)):=rfl
@[simp] theorem FA68_2(cs:List AV):aa T 68 (.ip cs) 2=some (.ip (cs.drop 2)):=rfl
@[simp] theorem FH68_2(l k:Nat):aa T 68 (.hp l k) 2=some (.hp l (k+2)):=rfl
@[simp] theorem FA68_5(cs:List AV):aa T 68 (.ip cs) 5=some (.ip (cs.drop 6)):=rfl
@[simp] theorem FH68_5(l k:Nat):aa T 68 (.hp l k) 5=some (.hp l (k+6)):=rfl
@[simp] theorem FA85_0(cs:List AV):aa T 85 (.ip cs) 0=some (.ip (cs.drop 0)):=rfl
@[simp] theorem FH85_0(l k:Nat):aa T 85 (.hp l k) 0=some (.hp l (k+0)):=rfl
@[simp] theorem FA94_1(cs:List AV):aa T 94 (.ip cs) 1=some (.ip (cs.drop 1)):=rfl
@[simp] theorem FH94_1(l k:Nat):aa T 94 (.hp l k) 1=some (.hp l (k+1)):=rfl
@[simp] theorem FA162_2(cs:List AV):aa T 162 (.ip cs) 2=some (.ip (cs.drop 5)):=rfl
@[simp] theorem FH162_2(l k:Nat):aa T 162 (.hp l k) 2=some (.hp l (k+5)):=rfl
@[simp] theorem FA162_3(cs:List AV):aa T 162 (.ip cs) 3=some (.ip (cs.drop 6)):=rfl
@[simp] theorem FH162_3(l k:Nat):aa T 162 (.hp l k) 3=some (.hp l (k+6)):=rfl
@[simp] theorem FA162_4(cs:List AV):aa T 162 (.ip cs) 4=some (.ip (cs.drop 7)):=rfl
@[simp] theorem FH162_4(l k:Nat):aa T 162 (.hp l k) 4=some (.hp l (k+7)):=rfl
@[simp] theorem FA164_0(cs:List AV):aa T 164 (.ip cs) 0=some (.ip (cs.drop 0)):=rfl
@[simp] theorem FH164_0(l k:Nat):aa T 164 (.hp l k) 0=some (.hp l (k+0)):=rfl
@[simp] theorem FA164_1(cs:List AV):aa T 164 (.ip cs) 1=some (.ip (cs.drop 1)):=rfl
@[simp] theorem FH164_1(l k:Nat):aa T 164 (.hp l k) 1=some (.hp l (k+1)):=rfl
@[simp] theorem FA164_2(cs:List AV):aa T 164 (.ip cs) 2=some (.ip (cs.drop 2)):=rfl
@[simp] theorem FH164_2(l k:Nat):aa T 164 (.hp l k) 2=some (.hp l (k+2)):=rfl
@[simp] theorem FA164_3(cs:List AV):aa T 164 (.ip cs) 3=some (.ip (cs.drop 3)):=rfl
@[simp] theorem FH164_3(l k:Nat):aa T 164 (.hp l k) 3=some (.hp l (k+3)):=rfl
@[simp] theorem FA164_4(cs:List AV):aa T 164 (.ip cs) 4=some (.ip (cs.drop 4)):=rfl
@[simp] theorem FH164_4(l k:Nat):aa T 164 (.hp l k) 4=some (.hp l (k+4)):=rfl
@[simp] theorem FA168_0(cs:List AV):aa T 168 (.ip cs) 0=some (.ip (cs.drop 0)):=rfl
@[simp] theorem FH168_0(l k:Nat):aa T 168 (.hp l k) 0=some (.hp l (k+0)):=rfl
@[simp] theorem FA168_1(cs:List AV):aa T 168 (.ip cs) 1=some (.ip (cs.drop 1)):=rfl
@[simp] theorem FH168_1(l k:Nat):aa T 168 (.hp l k) 1=some (.hp l (k+1)):=rfl
@[simp] theorem FA168_2(cs:List AV):aa T 168 (.ip cs) 2=some (.ip (cs.drop 2)):=rfl
@[simp] theorem FH168_2(l k:Nat):aa T 168 (.hp l k) 2=some (.hp l (k+2)):=rfl
@[simp] theorem LD3(x:AV)(l:List AV):am T 3 (.ip (x:: l))=some x:=rfl
@[simp] theorem LD4(x:AV)(l:List AV):am T 4 (.ip (x:: l))=some x:=rfl
@[simp] theorem LD9(x:AV)(l:List AV):am T 9 (.ip (x:: l))=some x:=rfl
@[simp] theorem LD22(x:AV)(l:List AV):am T 22 (.ip (x:: l))=some x:=rfl
@[simp] theorem LD23(x:AV)(l:List AV):am T 23 (.ip (x:: l))=some x:=rfl
@[simp] theorem LD24(x:AV)(l:List AV):am T 24 (.ip (x:: l))=some x:=rfl
@[simp] theorem LD25(x:AV)(l:List AV):am T 25 (.ip (x:: l))=some x:=rfl
@[simp] theorem LD27(cs:List AV):am T 27 (.ip cs)=if 3<=cs.length then some (.agg (cs.take 3))else none:=rfl
@[simp] theorem LD29(cs:List AV):am T 29 (.ip cs)=if 9<=cs.length then some (.agg (cs.take 9))else none:=rfl
@[simp] theorem LD30(x:AV)(l:List AV):am T 30 (.ip (x:: l))=some x:=rfl
@[simp] theorem LD35(cs:List AV):am T 35 (.ip cs)=if 2<=cs.length then some (.agg (cs.take 2))else none:=rfl
@[simp] theorem LD37(cs:List AV):am T 37 (.ip cs)=if 3<=cs.length then some (.agg (cs.take 3))else none:=rfl
@[simp] theorem LD45(cs:List AV):am T 45 (.ip cs)=if 4<=cs.length then some (.agg (cs.take 4))else none:=rfl
@[simp] theorem LD66(cs:List AV):am T 66 (.ip cs)=if 6<=cs.length then some (.agg (cs.take 6))else none:=rfl
@[simp] theorem LD68(cs:List AV):am T 68 (.ip cs)=if 12<=cs.length then some (.agg (cs.take 12))else none:=rfl
@[simp] theorem LD89(x:AV)(l:List AV):am T 89 (.ip (x:: l))=some x:=rfl
@[simp] theorem LD92(x:AV)(l:List AV):am T 92 (.ip (x:: l))=some x:=rfl
@[simp] theorem LD157(x:AV)(l:List AV):am T 157 (.ip (x:: l))=some x:=rfl
@[simp] theorem LD158(x:AV)(l:List AV):am T 158 (.ip (x:: l))=some x:=rfl
@[simp] theorem LD159(x:AV)(l:List AV):am T 159 (.ip (x:: l))=some x:=rfl
@[simp] theorem LD160(x:AV)(l:List AV):am T 160 (.ip (x:: l))=some x:=rfl
@[simp] theorem LD168(cs:List AV):am T 168 (.ip cs)=if 3<=cs.length then some (.agg (cs.take 3))else none:=rfl
@[simp] theorem EM(s:bO):bq T 9 (.str s)=some (.int .i64 s.length):=rfl
@[simp] theorem Cr(es:List AV):bq T 22 (.sl es)=some (.int .i64 es.length):=rfl
@[simp] theorem E0:bq T 22 .hn=some (.int .i64 0):=rfl
@[simp] theorem ET(l k n s:Nat)(a:Bool):bq T 22 (.hs l k n s a)=some (.int .i64 n):=rfl
@[simp] theorem EN(l:List bO):bq T 22 (strs l)=some (.int .i64 l.length):=(Cr _).trans (by simp)
@[simp] theorem Cs(es:List AV):bq T 23 (.sl es)=some (.int .i64 es.length):=rfl
@[simp] theorem E1:bq T 23 .hn=some (.int .i64 0):=rfl
@[simp] theorem EU(l k n s:Nat)(a:Bool):bq T 23 (.hs l k n s a)=some (.int .i64 n):=rfl
@[simp] theorem uP(l:List bv):bq T 23 (be l)=some (.int .i64 l.length):=(Cs _).trans (by simp[dm])
@[simp] theorem Ct(es:List AV):bq T 24 (.sl es)=some (.int .i64 es.length):=rfl
@[simp] theorem E2:bq T 24 .hn=some (.int .i64 0):=rfl
@[simp] theorem EV(l k n s:Nat)(a:Bool):bq T 24 (.hs l k n s a)=some (.int .i64 n):=rfl
@[simp] theorem EO(l:List Exp):bq T 24 (f7 l)=some (.int .i64 l.length):=(Ct _).trans (by simp[iA])
@[simp] theorem Cu(es:List AV):bq T 25 (.sl es)=some (.int .i64 es.length):=rfl
@[simp] theorem E3:bq T 25 .hn=some (.int .i64 0):=rfl
@[simp] theorem EW(l k n s:Nat)(a:Bool):bq T 25 (.hs l k n s a)=some (.int .i64 n):=rfl
@[simp] theorem EP(l:List Fun):bq T 25 (lx l)=some (.int .i64 l.length):=(Cu _).trans (by simp)
@[simp] theorem Cv(es:List AV):bq T 30 (.sl es)=some (.int .i64 es.length):=rfl
@[simp] theorem E4:bq T 30 .hn=some (.int .i64 0):=rfl
@[simp] theorem EX(l k n s:Nat)(a:Bool):bq T 30 (.hs l k n s a)=some (.int .i64 n):=rfl
@[simp] theorem EQ(l:List Val):bq T 30 (vals l)=some (.int .i64 l.length):=(Cv _).trans (by simp[eS])
@[simp] theorem Cw(es:List AV):bq T 47 (.sl es)=some (.int .i64 es.length):=rfl
@[simp] theorem E5:bq T 47 .hn=some (.int .i64 0):=rfl
@[simp] theorem EY(l k n s:Nat)(a:Bool):bq T 47 (.hs l k n s a)=some (.int .i64 n):=rfl
@[simp] theorem ER(l:List Ty):bq T 47 (uN l)=some (.int .i64 l.length):=(Cw _).trans (by simp)
@[simp] theorem Cy(es:List AV):bq T 92 (.sl es)=some (.int .i64 es.length):=rfl
@[simp] theorem E7:bq T 92 .hn=some (.int .i64 0):=rfl
@[simp] theorem EZ(l k n s:Nat)(a:Bool):bq T 92 (.hs l k n s a)=some (.int .i64 n):=rfl
@[simp] theorem ES(l:List Mod):bq T 92 (yQ l)=some (.int .i64 l.length):=(Cy _).trans (by simp)
@[simp] theorem z8(es:List AV):bq T 158 (.sl es)=some (.int .i64 es.length):=rfl
@[simp] theorem Em:bq T 158 .hn=some (.int .i64 0):=rfl
@[simp] theorem El(l k n s:Nat)(a:Bool):bq T 158 (.hs l k n s a)=some (.int .i64 n):=rfl
@[simp] theorem Ek(l:List Int):bq T 158 (ints l)=some (.int .i64 l.length):=(z8 _).trans (by simp)
def xI{l:List bO}{n:Int}(h0:0<=n)(h:n<(l.length:Int)):ay T 22 (strs l) (.int .i64 n)=some (.ip (ae (AV.str l[n.toNat]!))):=cV (T:=T) (t:=22) (e:=9) rfl rfl rfl (fun _=>by first|rfl|(simp;done)|(simp;rfl)) h0 h
def oV{l:List bv}{n:Int}(h0:0<=n)(h:n<(l.length:Int)):ay T 23 (be l) (.int .i64 n)=some (.ip (ae (bX l[n.toNat]!))):=by rw[be,dm];exact cV (T:=T) (t:=23) (e:=37) rfl rfl rfl (fun _=>by first|rfl|(simp;done)|(simp;rfl)) h0 h
def EK{l:List Fun}{n:Int}(h0:0<=n)(h:n<(l.length:Int)):ay T 25 (lx l) (.int .i64 n)=some (.ip (ae (Fun.av l[n.toNat]!))):=cV (T:=T) (t:=25) (e:=68) rfl rfl rfl (fun _=>by first|rfl|(simp;done)|(simp;rfl)) h0 h
def xJ{l:List Val}{n:Int}(h0:0<=n)(h:n<(l.length:Int)):ay T 30 (vals l) (.int .i64 n)=some (.ip (ae (Val.av l[n.toNat]!))):=by rw[vals,eS];exact cV (T:=T) (t:=30) (e:=45) rfl rfl rfl (fun _=>by first|rfl|(simp;done)|(simp;rfl)) h0 h
def EL{l:List Ty}{n:Int}(h0:0<=n)(h:n<(l.length:Int)):ay T 47 (uN l) (.int .i64 n)=some (.ip (ae (Ty.av l[n.toNat]!))):=cV (T:=T) (t:=47) (e:=35) rfl rfl rfl (fun _=>by first|rfl|(simp;done)|(simp;rfl)) h0 h
def EJ{a b:List bv}(h:(a.length+b.length)*48<=140737488355328):ew T 23 (be a) (be b)=some (be (a++b)):=by
 have:=vB (T:=T) (t:=23) (e:=37) rfl rfl rfl (f:=bX) (fun _=>by first|rfl|(simp;done)|(simp;rfl)) (a:=a) (b:=b) h (by decide)
 simpa [be,dm]using this
def vD(l:List bO)(i k:Nat)(hk:k=i+1)(h:k<l.length):asc (l.drop i)=(aC (l[i]'(by omega)) l[k]&&asc (l.drop k)):=by
 subst hk;have e1:l.drop i=l[i]:: l.drop (i+1):=GA (by omega);have e2:l.drop (i+1)=l[i+1]:: l.drop (i+2):=GA h;rw[e1,e2];rfl
def yJ(call)(l:List bO)(hb:l.length<=4611686018427387904):∀(n:Nat)(i:Int),l.length-i.toNat=n->1<=i->au (L135_0 call au) [strs l,.int .i64 i]=aw (.bool (asc (l.drop (i.toNat-1)))):=by
 intro n
 induction n with
 | zero=>
  intro i hn hi;rw[FL135_0];simp only[L135_0];have h1:¬(i<(l.length:Int)):=by omega
  have h2:asc (l.drop (i.toNat-1))=true:=by
   have:(l.drop (i.toNat-1)).length<=1:=by simp;omega
   match hq:l.drop (i.toNat-1),this with
   |[],_=>rfl
   |[x],_=>rfl
   |x:: y:: r,h=>simp at h
  simp[h1,h2]
 |succ n ih=>
  intro i hn hi;have h1:i<(l.length:Int):=by omega
  rw[FL135_0];simp only[L135_0];simp (disch:=omega) [h1,bR,xI];rw[ih (i+1) (by omega) (by omega),vD l (i.toNat-1) i.toNat (by omega) (by omega),show (i+1).toNat-1=i.toNat by omega];cases aC l[i.toNat-1] l[i.toNat]<;>simp
def t135(l:List bO)(hb:l.length<=4611686018427387904):ai pg 135 [strs l]=aw (.bool (asc l)):=by
 rw[C135];simp[S135,yJ (ai pg) l hb (l.length-1) 1 rfl (by omega)]
def yK(f:AV)(F:Val->Bool)(l:List Val)(hb:l.length<=4611686018427387904)(hf:∀x∈l,bJ (ai pg) f [Val.av x]=aw (.bool (F x))):∀(n:Nat)(i:Int),l.length-i.toNat=n->0<=i->i<=l.length->
  au (L164_0 (ai pg) au) [vals l,f,.int .i64 l.length,.int .i64 i]=aw (.int .i64 (bE F (l.drop i.toNat) i)):=by
 intro n
 induction n with
 |zero=>
  intro i hn hi hl;rw[FL164_0];simp only[L164_0];have h1:¬(i<(l.length:Int)):=by omega
  have h2:l.drop i.toNat=[]:=G0 (by omega);simp[h1,h2,bE]
 |succ n ih=>
  intro i hn hi hl;have h1:i<(l.length:Int):=by omega
  have hlt:i.toNat<l.length:=by omega
  have h2:bE F (l.drop i.toNat) i=if F l[i.toNat]=true then i else bE F (l.drop (i.toNat+1)) (i+1):=by rw[GA hlt];rfl
  have h3:=hf l[i.toNat] (GC hlt);have h4:=ih (i+1) (by omega) (by omega) (by omega);rw[show (i+1).toNat=i.toNat+1 by omega]at h4;rw[FL164_0];simp only[L164_0];simp (disch:=omega) [h1,bR,xJ,h3,h2];cases F l[i.toNat]
  ·simpa using h4
  ·simp
def t164(f:AV)(F:Val->Bool)(l:List Val)(hb:l.length<=4611686018427387904)(hc:∀g,cl g f=f)(hf:∀x∈l,bJ (ai pg) f [Val.av x]=aw (.bool (F x))):ai pg 164 [vals l,f]=aw (.int .i64 (bE F l 0)):=by
 rw[C164];simp[S164,hc,yK f F l hb hf l.length 0 rfl (by omega) (by omega)]
def t130(f:AV)(F:Val->Bool)(l:List Val)(hb:l.length<=4611686018427387904)(hc:∀g,cl g f=f)(hf:∀x∈l,bJ (ai pg) f [Val.av x]=aw (.bool (F x))):ai pg 130 [vals l,f]=aw (.bool (l.any F)):=by
 rw[C130];simp[S130,hc,t164 f F l hb hc hf,nf]
theorem t86:∀(d:Nat),d<=4->∀(v:Val),v.sz<=4611686018427387904->ai pg 86 [v.av,.int .i64 d]=aw (.bool (cE d v))
 |0,_,v,_=>by
  rw[C86];simp[S86,cE]
 | d+1,hd,v,hv=>by
  have ih:=t86 d (by omega);have h1:=t135 v.names (G5 v.sz_names hv);have hf:∀x∈v.values,bJ (ai pg) (.fn (.func 136) [] [.ip [.int .i64 ((d:Int)+1)]]) [x.av]=aw (.bool !(cE d x)):=by
   intro x hx;have hsz:=FS hx
   have:=ih x (by omega)
   show ai pg 136 [x.av,.ip [.int .i64 ((d:Int)+1)]]=_;rw[C136];simp (disch:=omega) [S136,cl,cU,bR,this,show (d:Int)+1-1=d by omega]
  have h2:=t130 (.fn (.func 136) [] [.ip [.int .i64 ((d:Int)+1)]]) (fun x=>!(cE d x)) v.values (by have:=v.sz_len;omega) (fun g=>rfl) hf;have h0:¬((d:Int)+1=0):=by omega
  rw[C86];simp[S86,cE,h0,h1,h2];have hall:(!v.values.any fun x=>!cE d x)=v.values.all (cE d):=by simp[IQ]
  rw[hall];split
  ·rfl
  ·congr 2;rw[show (v.kind== 2)=decide (v.kind=2)from rfl,show (v.n== 0)=decide (v.n=0)from rfl,show (v.names.length== v.values.length)=decide (v.names.length=v.values.length) by rw[Hn];simp,
    show (!decide ((8:Int)<(v.names.length:Int)))=decide (v.names.length<=8) by rw[Hn];simp;omega]
mutual
def D1:Val->Val->Bool
 |.mk k n ns vs,.mk k' n' ns' vs'=>k== k'&&n== n'&&ns== ns'&&xe vs vs'
def xe:List Val->List Val->Bool
 |[],[]=>true
 |v:: vs,w:: ws=>D1 v w&&xe vs ws
 |_,_=>false
end
def t49(v:Val)(hv:v.sz<=4611686018427387904):ai pg 49 [v.av]=aw (.bool (cE 4 v)):=by
 rw[C49]
 have:=t86 4 (by omega) v hv
 simp at this;simp[S49,this]
def yM(f:AV)(F:Fun->Bool)(l:List Fun)(hb:l.length<=4611686018427387904)(hf:∀x∈l,bJ (ai pg) f [Fun.av x]=aw (.bool (F x))):∀(n:Nat)(i:Int),l.length-i.toNat=n->0<=i->i<=l.length->
  au (L212_0 (ai pg) au) [lx l,f,.int .i64 l.length,.int .i64 i]=aw (.int .i64 (bE F (l.drop i.toNat) i)):=by
 intro n
 induction n with
 |zero=>
  intro i hn hi hl;rw[FL212_0];simp only[L212_0];have h1:¬(i<(l.length:Int)):=by omega
  have h2:l.drop i.toNat=[]:=G0 (by omega);simp[h1,h2,bE]
 |succ n ih=>
  intro i hn hi hl;have h1:i<(l.length:Int):=by omega
  have hlt:i.toNat<l.length:=by omega
  have h2:bE F (l.drop i.toNat) i=if F l[i.toNat]=true then i else bE F (l.drop (i.toNat+1)) (i+1):=by rw[GA hlt];rfl
  have h3:=hf l[i.toNat] (GC hlt);have h4:=ih (i+1) (by omega) (by omega) (by omega);rw[show (i+1).toNat=i.toNat+1 by omega]at h4;rw[FL212_0];simp only[L212_0];simp (disch:=omega) [h1,bR,EK,h3,h2];cases F l[i.toNat]
  ·simpa using h4
  ·simp
def t212(f:AV)(F:Fun->Bool)(l:List Fun)(hb:l.length<=4611686018427387904)(hc:∀g,cl g f=f)(hf:∀x∈l,bJ (ai pg) f [Fun.av x]=aw (.bool (F x))):ai pg 212 [lx l,f]=aw (.int .i64 (bE F l 0)):=by
 rw[C212];simp[S212,hc,yM f F l hb hf l.length 0 rfl (by omega) (by omega)]
def Bo(f:AV)(F:bv->Bool)(l:List bv)(hb:l.length<=4611686018427387904)(hf:∀x∈l,bJ (ai pg) f [bX x]=aw (.bool (F x))):∀(n:Nat)(i:Int),l.length-i.toNat=n->0<=i->i<=l.length->
  au (L81_0 (ai pg) au) [be l,f,.int .i64 l.length,.int .i64 i]=aw (.int .i64 (bE F (l.drop i.toNat) i)):=by
 intro n
 induction n with
 |zero=>
  intro i hn hi hl;rw[FL81_0];simp only[L81_0];have h1:¬(i<(l.length:Int)):=by omega
  have h2:l.drop i.toNat=[]:=G0 (by omega);simp[h1,h2,bE]
 |succ n ih=>
  intro i hn hi hl;have h1:i<(l.length:Int):=by omega
  have hlt:i.toNat<l.length:=by omega
  have h2:bE F (l.drop i.toNat) i=if F l[i.toNat]=true then i else bE F (l.drop (i.toNat+1)) (i+1):=by rw[GA hlt];rfl
  have h3:=hf l[i.toNat] (GC hlt);have h4:=ih (i+1) (by omega) (by omega) (by omega);rw[show (i+1).toNat=i.toNat+1 by omega]at h4;rw[FL81_0];simp only[L81_0];simp (disch:=omega) [h1,bR,oV,h3,h2];cases F l[i.toNat]
  ·simpa using h4
  ·simp
def t81(f:AV)(F:bv->Bool)(l:List bv)(hb:l.length<=4611686018427387904)(hc:∀g,cl g f=f)(hf:∀x∈l,bJ (ai pg) f [bX x]=aw (.bool (F x))):ai pg 81 [be l,f]=aw (.int .i64 (bE F l 0)):=by
 rw[C81];simp[S81,hc,Bo f F l hb hf l.length 0 rfl (by omega) (by omega)]
def t168(n:Int):ai pg 168 [.int .i64 n]=aw (Val.mk 0 n [] []).av:=by
 rw[C168];rfl
def za(o:Int)(ns:List bO)(vs:List Val):AV:=.agg [.int .i64 o,strs ns,vals vs]
@[simp] theorem xL(o:Int)(ns:List bO)(vs:List Val):ae (za o ns vs)=[.int .i64 o,strs ns,vals vs]:=rfl
set_option maxHeartbeats 1000000 in
def t167(n:Int):ai pg 167 [.int .i64 n]=aw (.int .i64 (vC n)):=by
 rw[C167];unfold vC;simp only[S167,K167_0,K167_1,K167_2,K167_3,cl,Bf,xV,aR,aH,bc,bj,GU];by_cases h0:n=0
 ·simp[h0]
 by_cases h1:n=1
 ·simp[h1]
 by_cases h2:n=2
 ·simp[h2]
 by_cases h17:n=17
 ·simp[h17]
 by_cases h10:n=10
 ·simp[h10]
 by_cases h14:n=14
 ·simp[h14]
 by_cases h16:n=16
 ·simp[h16]
 by_cases h18:n=18
 ·simp[h18]
 by_cases h3:n=3
 ·simp[h3]
 by_cases h4:n=4
 ·simp[h4]
 by_cases h5:n=5
 ·simp[h5]
 by_cases h6:n=6
 ·simp[h6]
 by_cases h7:n=7
 ·simp[h7]
 by_cases h8:n=8
 ·simp[h8]
 by_cases h9:n=9
 ·simp[h9]
 by_cases h12:n=12
 ·simp[h12]
 by_cases h11:n=11
 ·simp[h11]
 by_cases h13:n=13
 ·simp[h13]
 by_cases h15:n=15
 ·simp[h15]
 simp[h0,h1,h2,h17,h10,h14,h16,h18,h3,h4,h5,h6,h7,h8,h9,h12,h11,h13,h15]
def t98(l:List bO)(s:bO)(hb:l.length<=1099511627776):ai pg 98 [strs l,.str s]=aw (.int .i64 (bE (fun x=>s== x) l 0)):=by
 have hl:∀(n:Nat)(i:Int),l.length-i.toNat=n->0<=i->i<=l.length->au (L98_0 (ai pg) au) [strs l,.str s,.int .i64 l.length,.int .i64 i]=aw (.int .i64 (bE (fun x=>s== x) (l.drop i.toNat) i)):=by
  intro n
  induction n with
  |zero=>
   intro i hn hi hl;rw[FL98_0];simp only[L98_0];have h1:¬(i<(l.length:Int)):=by omega
   have h2:l.drop i.toNat=[]:=G0 (by omega);simp[h1,h2,bE]
  | succ n ih=>
   intro i hn hi hl;have h1:i<(l.length:Int):=by omega
   have hlt:i.toNat<l.length:=by omega
   have h2:bE (fun x=>s== x) (l.drop i.toNat) i=if(s== l[i.toNat])=true then i else bE (fun x=>s== x) (l.drop (i.toNat+1)) (i+1):=by rw[GA hlt];rfl
   have h4:=ih (i+1) (by omega) (by omega) (by omega);rw[show (i+1).toNat=i.toNat+1 by omega]at h4;rw[FL98_0];simp only[L98_0];simp (disch:=omega) [h1,bR,xI,h2];by_cases h:s=l[i.toNat]
   ·simp[h]
   ·simp[h];simpa using h4
 rw[C98];simp[S98,cl,hl l.length 0 rfl (by omega) (by omega)]
@[simp] theorem C9(t:Nat)(a b:Int):az T .geq t (.int .u8 a) (.int .u8 b)=some (.bool (decide (b<=a))):=rfl
@[simp] theorem Da(t:Nat)(a b:Int):az T .leq t (.int .u8 a) (.int .u8 b)=some (.bool (decide (a<=b))):=rfl
@[simp] theorem EF(t:Nat)(a b:bO):az T .leq t (.str a) (.str b)=some (.bool (aC a b||a== b)):=rfl
def t96(f:AV)(F:bv->Bool)(l:List bv)(hb:l.length<=4611686018427387904)(hc:∀g,cl g f=f)(hf:∀x∈l,bJ (ai pg) f [bX x]=aw (.bool (F x))):ai pg 96 [be l,f]=aw (.bool (l.any F)):=by
 rw[C96];simp[S96,hc,t81 f F l hb hc hf,nf]
def t205(b:UInt8):ai pg 205 [.int .u8 b.toNat]=aw (.bool (kI b)):=by
 rw[C205];have e:decide ((b.toNat:Int)<=122)=decide (b.toNat<=122):=Ig.2 (by omega);have e2:decide (97<=(b.toNat:Int))=decide (97<=b.toNat):=Ig.2 (by omega);simp[S205,kI,e,e2]
def t208(b:UInt8):ai pg 208 [.int .u8 b.toNat]=aw (.bool (rn b)):=by
 rw[C208];have e:decide ((b.toNat:Int)<=57)=decide (b.toNat<=57):=Ig.2 (by omega);have e2:decide (48<=(b.toNat:Int))=decide (48<=b.toNat):=Ig.2 (by omega);simp[S208,rn,e,e2]
def t207(b:UInt8):ai pg 207 [.int .u8 b.toNat]=aw (.bool (kZ b)):=by
 rw[C207];simp[S207,t205,t208,kZ]
theorem zT{s:bO}{i:Nat}(h:i<s.length):dM T 9 (.str s) (.int .i64 (i:Int))=some (.int .u8 (s[i].toNat:Int)):=by
 have e1:dM T 9 (.str s) (.int .i64 (i:Int))=(if(i:Int)<0 then none else s[(i:Int).toNat]?.map fun b=>.int .u8 b.toNat):=rfl;rw[e1,if_neg (by omega),G6,Gm h];rfl
def yL(F:UInt8->Bool)(f:AV)(s:bO)(hb:s.length<=4611686018427387904)(hf:∀b:UInt8,bJ (ai pg) f [.int .u8 b.toNat]=aw (.bool (F b))):∀(n i:Nat),s.length-i=n->i<=s.length->
  au (L206_0 (ai pg) au) [.str s,f,.int .i64 i]=aw (.int .i64 ((i+((s.drop i).takeWhile F).length:Nat):Int)):=by
 intro n
 induction n with
 |zero=>
  intro i hn hi;rw[FL206_0];simp only[L206_0];have h1:¬((i:Int)<(s.length:Int)):=by omega
  have h2:s.drop i=[]:=G0 (by omega);simp[h1,h2]
 | succ n ih=>
  intro i hn hi;have hlt:i<s.length:=by omega
  have h1:(i:Int)<(s.length:Int):=by omega
  have h2:s.drop i=s[i]:: s.drop (i+1):=GA hlt;have h4:=ih (i+1) (by omega) (by omega);have hw:IntKind.i64.wrap ((i:Int)+1)=((i+1:Nat):Int):=jP (by omega);rw[FL206_0];simp only[L206_0,bc,bj,EM,aR,xW,h1,Iv,bI,zT hlt,hf,aO,cw,aH,xU,hw,h4,h2,Ip];cases F s[i]
  ·simp
  ·rw[Gg rfl,Gg rfl];congr 3;simp;omega
def t158(s:bO):ai pg 158 [.str s]=aw (.bool (ky s)):=by
 rw[C158];by_cases hs:s=[]
 ·subst hs;simp[S158,ky]
 ·have hs':(s== [])=false:=Ho.2 hs;have hpos:0<s.length:=Hw.2 hs;have h0:=zT (s:=s) (i:=0) hpos;have hd:s[0]=s.headD 0:=by cases s with|nil=>exact absurd rfl hs|cons c s=>rfl
  rw[hd]at h0;simp at h0;by_cases hl:s.length<=20
  ·have h1:=yL kZ (.fn (.func 207) [] []) s (by omega) (fun b=>t207 b) s.length 0 (by simp) (by simp);have hsp:ai pg 206 [.str s,.fn (.func 207) [] []]=aw (.int .i64 (((s.takeWhile kZ).length:Nat):Int)):=by
    rw[C206];simp only[S206,cl,cU];rw[show (AV.int .i64 0)=AV.int .i64 ((0:Nat):Int)from rfl,h1];simp
   have e1:decide (20<(s.length:Int))=false:=by rw[Hv];omega
   have e3:decide (20<s.length)=false:=by rw[Hv];omega
   have e4:decide (s.length<=20)=true:=by simpa using hl
   simp[S158,hs',h0,t205,hsp,e1,e3,e4,ky]
  ·have e1:decide (20<(s.length:Int))=true:=by rw[Ge];omega
   have e3:decide (20<s.length)=true:=by rw[Ge];omega
   have e4:decide (s.length<=20)=false:=by simpa using hl
   simp[S158,hs',h0,t205,e1,e3,e4,ky]
def t159(s:bO):ai pg 159 [.str gX,.str s]=aw (.bool (Lib.contains gX s)):=by
 rw[gn aW (E:=ff) rfl];rfl
theorem tE(t:Nat)(a b:bO):az T .add t (.str a) (.str b)=if a.length+b.length<=4611686018427387904 then some (.str (a++b))else none:=rfl
def t119(s:bO):ai pg 119 [.str s]=aw (.bool (fo s)):=by
 rw[C119];have h1:=t158 s;unfold fo;cases hw:ky s with
 |false=>
  rw[hw]at h1;simp[S119,h1]
 |true=>
  have hl:=uL hw;rw[hw]at h1;have h2:=t159 ([32]++s++[32]);unfold gX at h2;have e1:az T .add 9 (.str [32]) (.str s)=some (.str ([32]++s)):=by rw[tE,Gg (by simp;omega)]
  have e2:az T .add 9 (.str ([32]++s)) (.str [32])=some (.str ([32]++s++[32])):=by rw[tE,Gg (by simp;omega)]
  simp only[S119,A5,h1,aO,bI,e1,aR,e2,h2,zf,bc,cw,ni,HC];rfl
def yF{t:Ty}(h:t.Lim)(k:Nat)(hk:k<t.fields.length):(t.fields[k]!).2.Lim:=by
 rw[G1 t.fields k hk];exact h.kid (GC hk)
theorem t99:∀(d:Nat),d<=4->∀(t:Ty),t.Lim->ai pg 99 [t.av,.int .i64 d]=aw (.bool (a6 d t))
 |0,_,t,_=>by
  rw[C99];simp[S99,a6]
 | d + 1,hd,t,ht=>by
  have ih:=t99 d (by omega);have hlen:=ht.len;have hd1:IntKind.i64.wrap ((((d+1:Nat)):Int)-1)=(d:Int):=uM (by omega);have hloop:=yu (F:=L99_0 (ai pg) au) (FL99_0 (ai pg)) (fun k=>[.int .i64 ((d+1:Nat):Int),.ip (ae t.av),be t.fields,.int .i64 t.fields.length,.int .i64 k]) t.fields.length
   (fun k=>(fo (t.fields[k]!).1&&a6 d (t.fields[k]!).2)&&(decide (k=0)||dA (t.fields[k-1]!).1 (t.fields[k]!).1))
   (by simp[L99_0]) (fun k hk=>by
    have h1:(k:Int)<(t.fields.length:Int):=by omega
    have hix:=oV (l:=t.fields) (n:=(k:Int)) (by omega) h1;rw[G6]at hix;have hm:t.fields[k]! ∈t.fields:=by rw[G1 t.fields k hk];exact GC hk
    have h2:=t119 (t.fields[k]!).1;have h3:=ih (t.fields[k]!).2 (yF ht k hk);have hw:IntKind.i64.wrap ((k:Int)+1)=(k:Int)+1:=by rw[jP (by omega)];simp
    have hd0:IntKind.i64.wrap (d:Int)=(d:Int):=xA (by omega);generalize t.fields[k]! = f at hix h2 h3 hm |-;rcases GN k with hk0|hk0
    ·subst hk0;have hix0:ay T 23 (be t.fields) (.int .i64 0)=some (.ip (ae (bX f))):=hix;have hw0:IntKind.i64.wrap 1=1:=rfl;simp[L99_0,hix0,h2,h3,hw0,hd0,hk];cases fo f.1<;>cases a6 d f.2<;>simp
    ·have hp:IntKind.i64.wrap ((k:Int)-1)=((k-1:Nat):Int):=by
      rw[bR (by omega) (by omega)];omega
     have h4:((k-1:Nat):Int)<(t.fields.length:Int):=by omega
     have hix2:=oV (l:=t.fields) (n:=((k-1:Nat):Int)) (by omega) h4;rw[G6]at hix2;generalize t.fields[k-1]! = g at hix2 |-;have hk1:¬k=0:=by omega
     simp[L99_0,h1,hix,h2,h3,hw,hd0,hp,hix2,hk0,hk1,hk];cases fo f.1<;>simp;cases h5:aC f.1 g.1<;>cases a6 d f.2<;>by_cases h6:f.1=g.1<;>simp[dA,h5,h6]) 0 (Hi _)
  have hall:((List.range' 0 t.fields.length).all fun k=>(fo (t.fields[k]!).1&&a6 d (t.fields[k]!).2)&&(decide (k=0)||dA (t.fields[k-1]!).1 (t.fields[k]!).1))=(t.fields.all (fun f=>fo f.1&&a6 d f.2)&&gh (fun a b=>dA a.1 b.1) t.fields):=
   xN (fun f:bv=>fo f.1&&a6 d f.2) (fun a b=>dA a.1 b.1) t.fields
  rw[Nat.sub_zero,hall]at hloop;rw[C99];have h0:¬((d:Int)+1=0):=by omega
  have hl2:au (L99_0 (ai pg) au) [.int .i64 ((d:Int)+1),.ip [.int .i64 t.kind,be t.fields],be t.fields,.int .i64 t.fields.length,.int .i64 0]=aw (.bool (t.fields.all (fun f=>fo f.1&&a6 d f.2)&&gh (fun a b=>dA a.1 b.1) t.fields)):=by
   simpa using hloop
  have hR:a6 (d+1) t=if((t.kind<0\/3<=t.kind)\/8<(t.fields.length:Int))\/¬t.kind=2/\0<t.fields.length then false else(t.fields.all (fun f=>fo f.1&&a6 d f.2)&&gh (fun a b=>dA a.1 b.1) t.fields):=by
   rw[bM];generalize (t.fields.all (fun f=>fo f.1&&a6 d f.2)&&gh (fun a b=>dA a.1 b.1) t.fields)=q;generalize t.fields.length=n;generalize t.kind=k;split
   ·rename_i hc;cases q
    ·simp
    ·simp only[HU,Ii,Hv,Ht,Ho];rcases hc with((h|h)|h)|h
     ·exact .inl (.inl (.inl (by omega)))
     ·exact .inl (.inl (.inr (by omega)))
     ·exact .inl (.inr (by omega))
     ·exact .inr ⟨h.1,by omega⟩
   ·rename_i hc;have e1:decide (0<=k)=true:=by rw[Ge];omega
    have e2:decide (k<3)=true:=by rw[Ge];omega
    have e3:decide (n<=8)=true:=by rw[Ge];omega
    have e4:(k== 2||n== 0)=true:=by
     rw[G9,GU,GU];omega
    rw[e1,e2,e3,e4];simp
  rw[hR];simp[S99,h0,hl2]
def t56(t:Ty)(ht:t.Lim):ai pg 56 [t.av]=aw (.bool (bd t)):=by
 rw[C56];have:ai pg 99 [t.av,.int .i64 4]=aw (.bool (a6 4 t)):=t99 4 (by omega) t ht;simp[S56,this]
def t23(t:Ty)(ht:t.Lim):ai pg 23 [t.av]=aw (.bool (bd t)):=by
 rw[C23];simp[S23,t56 t ht]
theorem ki:(l:List bv)->dL (dl l)=some (l.map fun f=>(f.1,f.2.kind,dl f.2.fields))
 |[]=>rfl
 |f:: l=>by simp[dl,dL,ki l,dB,pF,be]
theorem nk{α β:Type}(g:α->β)(p:β->Bool):(l:List α)->bY p (l.map g)=(bY (fun x=>p (g x)) l).map g
 |[]=>rfl
 |x:: l=>by
  simp only[GY,bY,nk g p l];cases bY (fun x=>p (g x)) l with
  |some y=>rfl
  |none=>cases p (g x)<;>rfl
def ty0:Ty:=.mk 0 []
def t112(l:List bv)(hl:l.length<=1000000000)(s:bO):ai pg 112 [be l,.str s]=aw (.tup [((bY (fun f=>f.1== s) l).map (·.2)).getD ty0 |>.av,.bool (bY (fun f=>f.1== s) l).isSome]):=by
 rw[gn aW (E:=gT) rfl];unfold gT be;simp only[ki,Hz,hl,Iv,F9,rS,nk];cases bY (fun f:bv=>f.1== s) l with
 |none=>rfl
 |some f=>simp[aj,aw,Ty.av,Ty.cells_eq,be];rfl
def Ty.Short:Nat->Ty->Prop
 |0,_=>True
 |n+1,t=>t.fields.length<=1000000000/\∀f∈t.fields,Ty.Short n f.2
theorem eC:∀(d:Nat)(t:Ty),a6 d t=true->∀n,Ty.Short n t
 |0,t,h,_=>by cases h
 |d+1,t,h,0=>trivial
 |d+1,t,h,n+1=>by
  rw[bM]at h;simp only[F8,Ge,Gk]at h;exact⟨by omega,fun f hf=>eC d f.2 (h.2.1 f hf).2 n⟩
theorem jF{α:Type}{p:α->Bool}:{l:List α} ->{x:α} ->bY p l=some x->x∈l/\p x=true
 |[],x,h=>by cases h
 | y:: l,x,h=>by
  simp only[bY]at h;cases h2:bY p l with
  |some z=>
   rw[h2]at h;cases h
   have:=jF h2
   exact⟨GV _ this.1,this.2⟩
  |none=>
   rw[h2]at h;cases h3:p y with
   |true=>rw[h3]at h;cases h;exact⟨Hf,h3⟩
   |false=>rw[h3]at h;cases h
def qm{α:Type}(P:α->Bool)(l:List α):(!l.any fun x=>!P x)=l.all P:=by simp[IQ]
theorem t72:∀(n:Nat)(b a:Ty),Ty.Short n a->Ty.Short n b->a6 n b=true->ai pg 72 [a.av,b.av]=aw (.bool (gl a b))
 |0,b,a,_,_,h=>by cases h
 | n+1,b,a,ha,hb,h=>by
  have ih:=t72 n;rw[bM]at h;simp only[F8,Ge,Gk]at h;have hf:∀f∈b.fields,bJ (ai pg) (.fn (.func 111) [] [.ip (ae a.av)]) [bX f]=aw (.bool (!(match bY (fun z=>z.1== f.1) a.fields with|some z=>gl z.2 f.2|none=>false))):=by
   intro f hfm;show ai pg 111 [bX f,.ip (ae a.av)]=_;have h1:=t112 a.fields ha.1 f.1;rw[C111];cases hl:bY (fun z:bv=>z.1== f.1) a.fields with
   |none=>
    rw[hl]at h1;simp[S111,h1,cl,cU]
   |some z=>
    rw[hl]at h1;have h2:=ih f.2 z.2 (ha.2 z (jF hl).1) (hb.2 f hfm) (h.2.1 f hfm).2;simp[S111,h1,cl,cU,h2]
  have h2:=t96 (.fn (.func 111) [] [.ip (ae a.av)]) _ b.fields (by have:=hb.1;omega) (fun g=>by simp[cl,cU]) hf;rw[C72,mS];simp at h2;simp[S72,h2];rw[qm];rfl
def t35(a b:Ty)(ha:a.Lim)(hb:b.Lim):ai pg 35 [a.av,b.av]=aw (.bool (su a b)):=by
 rw[C35];unfold su;have h1:=t23 a ha;have h2:=t23 b hb;cases r1:bd a with
 |false=>
  rw[r1]at h1;simp[S35,h1]
 | true=>
  cases r2:bd b with
  |false=>
   rw[r1]at h1;rw[r2]at h2;simp[S35,h1,h2]
  |true=>
   rw[r1]at h1;rw[r2]at h2;have h3:=t72 4 b a (eC 4 a r1 4) (eC 4 b r2 4) r2;simp[S35,h1,h2,h3]
@[simp] theorem AP(t:Nat)(a b:Int):az T .andNot t (.int .i64 a) (.int .i64 b)=some (.int .i64 (yr a b)):=rfl
theorem wj:∀ {n:Nat} {v:Val},cE n v=true->v.names.length=v.values.length/\v.names.length<=8/\∀x∈v.values,∃m,cE m x=true
 |0,v,h=>by simp[cE]at h
 | n+1,v,h=>by
  unfold cE at h;split at h
  ·simp only[F8,GU]at h;have h1:v.values=[]:=H6.1 h.1.2;refine⟨by omega,by omega,fun x hx=>by rw[h1]at hx;cases hx⟩
  ·simp only[F8,GU,Ge,Gk]at h;exact⟨h.1.1.1.2,h.1.1.2,fun x hx=>⟨n,h.2 x hx⟩⟩
theorem nh{α:Type}(F:α->Bool):(l:List α)->(i:Int)->bE F l i= -1\/(i<=bE F l i/\bE F l i<i+l.length)
 |[],i=>.inl rfl
 | x:: l,i=>by
  simp only[bE];split
  ·right;simp;omega
  ·rcases nh F l (i+1)with h|h
   ·exact .inl h
   ·right;simp only[Gu];omega
def vz{α:Type}(F:α->Bool)(l:List α):(l.any fun x=>!F x)= !(l.all F):=by
 induction l with
 |nil=>rfl
 |cons x l ih=>simp only[List.any_cons,GO,ih];cases F x<;>simp
theorem Ec:∀(d:Nat)(t:Ty)(n:Nat)(v:Val),a6 d t=true->cE n v=true->v.sz<=1099511627776->ai pg 55 [t.av,v.av]=aw (.bool (gu d t v))
 |0,t,n,v,h,_,_=>by simp[a6]at h
 | d+1,t,n,v,h,hv,hz=>by
  have hr:=h;rw[bM]at hr;simp only[F8,Gk,Ge]at hr;obtain⟨hl,h8,hk⟩:=wj hv;have hcl:∀g,cl g (.fn (.func 97) [] [.ip (ae v.av)])= .fn (.func 97) [] [.ip (ae v.av)]:=fun g=>by simp[cl,cU]
  have hany:=t96 (.fn (.func 97) [] [.ip (ae v.av)]) (fun f=>!(decide (0<=eK v.names f.1)&&gu d f.2 v.values[(eK v.names f.1).toNat]!)) t.fields (by have:=hr.1.1.2;omega) hcl (fun f hf=>by
   show ai pg 97 [bX f,.ip (ae v.av)]=_;have hi:=t98 v.names f.1 (by omega);have hfr:=(hr.2.1 f hf).2;have hix:bE (fun x=>f.1== x) v.names 0=eK v.names f.1:=rfl;rw[hix]at hi;rw[C97];rcases nh (fun x=>f.1== x) v.names 0 with h1|h1
   ·rw[hix]at h1;have h2:eK v.names f.1<0:=by omega
    have h3:¬(0<=eK v.names f.1):=by omega
    simp[S97,cl,cU,hi,h2,h3]
   ·rw[hix]at h1;have h2:¬eK v.names f.1<0:=by omega
    have h3:0<=eK v.names f.1:=by omega
    have hlt:(eK v.names f.1).toNat<v.values.length:=by omega
    have hvx:=xJ (l:=v.values) (n:=eK v.names f.1) h3 (by omega);have hmem:v.values[(eK v.names f.1).toNat]! ∈v.values:=by rw[G1 v.values _ hlt];exact GC hlt
    obtain⟨m,hm⟩:=hk _ hmem;have ih:=Ec d f.2 m v.values[(eK v.names f.1).toNat]! hfr hm (by have:=FS hmem;omega);generalize v.values[(eK v.names f.1).toNat]! = x at hvx ih |-;simp[S97,cl,cU,hi,h2,h3,hvx,ih])
  rw[vz]at hany;have ea:ae v.av=[.int .i64 v.kind,.int .i64 v.n,strs v.names,vals v.values]:=by simp
  rw[ea]at hany;rw[C55,show gu (d+1) t v=(t.kind== v.kind&&t.fields.all fun f=>decide (0<=eK v.names f.1)&&gu d f.2 v.values[(eK v.names f.1).toNat]!)from rfl];generalize (t.fields.all fun f=>decide (0<=eK v.names f.1)&&gu d f.2 v.values[(eK v.names f.1).toNat]!)=b at hany |-;simp[S55,hany]
def t20(t:Ty)(v:Val)(ht:t.Lim)(hz:v.sz<=1099511627776):ai pg 20 [t.av,v.av]=aw (.bool (dn t v)):=by
 have h1:=t23 t ht;have h2:=t49 v (by omega);rw[C20];unfold dn;cases hr:bd t with
 |false=>simp[S20,h1,hr]
 | true=>
  cases hv:cE 4 v with
  |false=>simp[S20,h1,hr,h2,hv]
  |true=>
   have h3:=Ec 4 t 4 v hr hv hz;simp[S20,h1,hr,h2,hv,h3]
def kL{α β:Type}{m:M α}{a:α}{h h':Hp}(e:m h= .ok a h')(f:α->M β):af m f h=f a h':=by simp only[af,e]
theorem BW(k fs:AV):aa T 35 (.ip [k,fs]) 0=some (.ip [k,fs]):=rfl
theorem Ei(k fs:AV):aa T 35 (.ip [k,fs]) 1=some (.ip [fs]):=rfl
theorem BX(k:Int)(fs:AV):am T 3 (.ip [.int .i64 k,fs])=some (.int .i64 k):=rfl
theorem Ej(fs:AV):am T 23 (.ip [fs])=some fs:=rfl
theorem sD(a b c:AV):aa T 37 (.ip [a,b,c]) 0=some (.ip [a,b,c]):=rfl
theorem zj(a b c:AV):aa T 37 (.ip [a,b,c]) 1=some (.ip [b,c]):=rfl
theorem sE(s:bO)(b c:AV):am T 9 (.ip [.str s,b,c])=some (.str s):=rfl
theorem xz(b c:AV):am T 35 (.ip [b,c])=some (.agg [b,c]):=rfl
theorem ib(l:List AV):ae (.agg l)=l:=rfl
theorem xH(a b:Int):az T .lss 3 (.int .i64 a) (.int .i64 b)=some (.bool (decide (a<b))):=rfl
def zk{k:Nat}(h:k<=4611686018427387904):az T BinOp.add 3 (.int .i64 (k:Int)) (.int .i64 1)=some (.int .i64 (k+1:Nat)):=by
 have:IntKind.i64.wrap ((k:Int)+1)=((k+1:Nat):Int):=by rw[bR (by omega) (by omega)];omega
 simp[this]
def io(t:Ty):t.av= .agg [.int .i64 t.kind,be t.fields]:=by cases t;rfl
def mc{h:Hp}{d:Nat}{a:AV}{t:Ty}(H:my h (d+1) a t)(hl:t.fields.length<=1000):∃fsv,a= .agg [.int .i64 t.kind,fsv]/\aE fsv=true/\bq T 23 fsv=some (.int .i64 t.fields.length)/\∀(i:Nat)(hi:i<t.fields.length),
  ∃p c,ay T 23 fsv (.int .i64 (i:Int))=some p/\aE c=true/\(∀h',Ap.cq h h'->dH T 37 p h'= .ok (.agg [.str t.fields[i].1,.int .i64 t.fields[i].2.kind,c]) h')/\my h d (.agg [.int .i64 t.fields[i].2.kind,c]) t.fields[i].2:=by
 rcases H with rfl|⟨fs,rfl,H⟩
 ·refine⟨be t.fields,io t,rfl,uP _,fun i hi=>?_⟩;have hix:=oV (l:=t.fields) (n:=(i:Int)) (by omega) (by omega);rw[G6,G1 t.fields i hi]at hix;refine⟨_,be t.fields[i].2.fields,hix,rfl,fun h' _=>?_,.inl (io _).symm⟩;generalize t.fields[i]=f;rw[dB];rfl
 ·refine⟨fs,rfl,H.cell,?_,fun i hi=>?_⟩
  ·rcases H with⟨rfl,h2⟩|⟨r,ps,h1,h2,rfl,h4,h5,h6⟩
   ·rw[h2];rfl
   ·rw[<- h2,Hz];rfl
  ·rcases H with⟨rfl,h2⟩|⟨r,ps,h1,h2,rfl,h4,h5,h6⟩
   ·rw[h2]at hi;simp at hi
   ·have hip:i<ps.length:=by rw[<- h2]at hi;simpa using hi
    have hfi:t.fields[i]=ps[i].1:=by
     have:t.fields[i]? = some ps[i].1:=by rw[<- h2,Hk,Gm hip];rfl
     rw[Gm hi]at this;exact HY this
    have hp:=h6 ps[i] (GC hip);have hrl:(rowOf cv ps).length=ps.length*3:=cD iQ ps;refine⟨.hp r (0+(i:Int).toNat*3),ps[i].2,?_,hp.cell,fun h' he=>?_,.inr ⟨ps[i].2,rfl,by rw[hfi];exact hp.mono (fun _ _ _=>trivial) (fun _ _ _=>rfl)⟩⟩
    ·show (if 0<=(i:Int)/\(i:Int)<(ps.length:Nat)then some (AV.hp r (0+(i:Int).toNat*3))else none)=_;rw[Gg ⟨by omega,by omega⟩]
    ·have:=rP (T:=T) (t:=37) rfl rfl (h:=h') (l:=r) (k:=0+i*3) (cs:=rowOf cv ps) (by rw[he.2 r (fN h5)];exact h5) (by rw[hrl];show 0+i*3+3<=_;omega)
     rw[G6,this,hfi];congr 1;show AV.agg (((rowOf cv ps).drop (0+i*3)).take 3)=_;rw[GE,ee iQ ps i hip];rfl
def y8{h:Hp}{d n0:Nat}{cur:AV}{ps:List (bv×AV)}(hn0:n0<=h.length)(hcur:(ps=[]/\cur= .hn)\/∃r,ps≠[]/\cur= .hs r 0 ps.length 3 true/\n0<=r/\h[r]? = some (rowOf cv ps)/\∀p∈ps,cR h d (fun x=>n0<=x/\x≠r) p.2 p.1.2.fields){q:bv×AV}(hq:cR h d (fun x=>n0<=x/\∀r,cur= .hs r 0 ps.length 3 true->x≠r) q.2 q.1.2.fields)(hl:ps.length<=1000):
  ∃r h',appH T 23 false cur (.sl [cv q]) h= .ok (.hs r 0 (ps++[q]).length 3 true) h'/\n0<=r/\h'[r]? = some (rowOf cv (ps++[q]))/\(∀p∈ps++[q],cR h' d (fun x=>n0<=x/\x≠r) p.2 p.1.2.fields)/\h.length<=h'.length/\∀x,x<n0->h'[x]? = h[x]?:=by
 have hqc:bo 3 (cv q)=true:=by
  show (some 3== some 3&&[AV.str q.1.1,.int .i64 q.1.2.kind,q.2].all aE)=true;rw[GO,GO,GO,hq.cell];rfl
 rcases hcur with⟨rfl,rfl⟩|⟨r,h1,rfl,h3,h4,h5⟩
 ·refine⟨h.length,h++[ae (cv q)],C7 (T:=T) (t:=23) (e:=37) rfl rfl rfl (x:=cv q) hqc (by decide) (by decide) (by decide) h,hn0,?_,?_,by simp,fun x hx=>by rw[Gc (by omega)]⟩
  ·rw[Gn (Ga _),Hq];simp[rowOf]
  ·intro p hp;rw[GQ,Hs]at hp;subst hp;exact hq.mono (fun x hx ⟨q1,_⟩=>⟨q1,by omega⟩) (fun x hx _=>by rw[Gc hx])
 ·have hlt:=fN h4;have hrl:(rowOf cv ps).length=ps.length*3:=cD iQ ps;have hpos:0<ps.length:=Hw.2 h1;refine⟨h.length,(h.set r [])++[rowOf cv ps++ae (cv q)],?_,hn0,?_,?_,by simp,fun x hx=>?_⟩
  ·rw[Gf];exact C8 (T:=T) (t:=23) (e:=37) rfl rfl rfl (x:=cv q) hqc (by decide) (by decide) h4 (tB fun p hp=>(h5 p hp).cell) hrl hpos (by show (ps.length+1)*48<=_;omega)
  ·rw[Gn (by simp),GZ,Hq];simp[rowOf]
  ·intro p hp;have key:∀ {fs:AV} {l:List bv},cR h d (fun x=>n0<=x/\x≠r) fs l->cR ((h.set r [])++[rowOf cv ps++ae (cv q)]) d (fun x=>n0<=x/\x≠h.length) fs l:=fun H=>H.mono (fun x hx ⟨q1,_⟩=>⟨q1,by omega⟩) (fun x hx ⟨_,q2⟩=>by
    rw[Gc (by simpa using hx),G7 (by omega)])
   rcases Gx.1 hp with hp|hp
   ·exact key (h5 p hp)
   ·rw[Hs]at hp;subst hp;exact key (hq.mono (fun x hx ⟨q1,q2⟩=>⟨q1,q2 r rfl⟩) (fun _ _ _=>rfl))
  ·rw[Gc (by simp;omega),G7 (by omega)]
def mK(h:Hp)(n0 d:Nat)(ps:List (bv×AV))(cur:AV):Prop:=(ps=[]/\cur= .hn)\/∃r,ps≠[]/\cur= .hs r 0 ps.length 3 true/\n0<=r/\h[r]? = some (rowOf cv ps)/\∀p∈ps,cR h d (fun x=>n0<=x/\x≠r) p.2 p.1.2.fields
def mK.loc{h:Hp}{n0 d:Nat}{ps:List (bv×AV)}{cur:AV}(H:mK h n0 d ps cur):cR h (d+1) (fun x=>n0<=x) cur (ps.map (·.1)):=by
 rcases H with⟨rfl,rfl⟩|⟨r,h1,h2,h3,h4,h5⟩
 ·exact .inl ⟨rfl,rfl⟩
 ·exact .inr ⟨r,ps,h1,rfl,h2,h3,h4,h5⟩
def mK.of{h:Hp}{n0 d:Nat}{cur:AV}{l:List bv}(H:cR h (d+1) (fun x=>n0<=x) cur l):∃ps,ps.map (·.1)=l/\mK h n0 d ps cur:=by
 rcases H with⟨rfl,rfl⟩|⟨r,ps,h1,h2,h3,h4,h5,h6⟩
 ·exact⟨[],rfl,.inl ⟨rfl,rfl⟩⟩
 ·exact⟨ps,h2,.inr ⟨r,h1,h3,h4,h5,h6⟩⟩
def mK.cell{h:Hp}{n0 d:Nat}{ps:List (bv×AV)}{cur:AV}(H:mK h n0 d ps cur):aE cur=true:=H.loc.cell
def mK.ext{h h':Hp}{n0 d:Nat}{ps:List (bv×AV)}{cur:AV}(H:mK h n0 d ps cur)(e:Ap.cq h h'):mK h' n0 d ps cur:=by
 rcases H with H|⟨r,h1,h2,h3,h4,h5⟩
 ·exact .inl H
 ·exact .inr ⟨r,h1,h2,h3,by rw[e.2 r (fN h4)];exact h4,fun p hp=>(h5 p hp).mono (fun _ _ hx=>hx) (fun x hx _=>e.2 x hx)⟩
theorem FE(s:bO)(k:Int)(fs:AV):ct T false 37 [(0,.str s),(1,.agg [.int .i64 k,fs])]=some (.agg [.str s,.int .i64 k,fs]):=rfl
theorem Fu(a b c:AV):bm T 23 1 [(0,.agg [a,b,c])]=some (.sl [.agg [a,b,c]]):=rfl
def FF{a b c:AV}(h:bo 3 (.agg [a,b,c])=true):bn 3 (.agg [a,b,c])=aw (.agg [a,b,c]):=by rw[bT h];rfl
def BV(s:bO)(k:Int){c:AV}(h:aE c=true):bo 3 (.agg [.str s,.int .i64 k,c])=true:=by
 show (some 3== some 3&&[AV.str s,.int .i64 k,c].all aE)=true;rw[GO,GO,GO,h];rfl
def BU(k:Int){c:AV}(h:aE c=true):bo 2 (.agg [.int .i64 k,c])=true:=by
 show (some 2== some 2&&[AV.int .i64 k,c].all aE)=true;rw[GO,GO,h];rfl
def EI{k:Int}{c:AV}(h:aE c=true):aK 2 [] (.agg [.int .i64 k,c])=aw (.agg [.int .i64 k,c]):=by
 rw[bz (BU k h)];rfl
theorem yH{h0:Hp}{d:Nat}{t:Ty}{fsv:AV}(hl:t.fields.length<=1000)(hlen:bq T 23 fsv=some (.int .i64 t.fields.length))(acc:∀(i:Nat)(hi:i<t.fields.length),∃p c,ay T 23 fsv (.int .i64 (i:Int))=some p/\aE c=true/\(∀h',Ap.cq h0 h'->dH T 37 p h'= .ok (.agg [.str t.fields[i].1,.int .i64 t.fields[i].2.kind,c]) h')/\my h0 d (.agg [.int .i64 t.fields[i].2.kind,c]) t.fields[i].2)(ih:∀f∈t.fields,∀(a:AV)(h:Hp),my h d a f.2->∃fs' h',ai pg 113 [a] h= .ok (.agg [.int .i64 f.2.kind,fs']) h'/\Ap.cq h h'/\cR h' d (fun x=>h.length<=x) fs' f.2.fields)(x3 x4:AV):
  ∀(r i:Nat)(ps:List (bv×AV))(cur:AV)(h:Hp),t.fields.length-i=r->i<=t.fields.length->Ap.cq h0 h->ps.map (·.1)=t.fields.take i->mK h h0.length d ps cur->
   ∃fs' h',au (L113_0 (ai pg) au) [fsv,.int .i64 t.fields.length,.int .i64 (i:Int),x3,x4,.int .i64 t.kind,cur] h= .ok (.agg [.int .i64 t.kind,fs']) h'/\Ap.cq h0 h'/\cR h' (d+1) (fun x=>h0.length<=x) fs' t.fields:=by
 intro r
 induction r with
 |zero=>
  intro i ps cur h hr hi he hps hC;have hie:i=t.fields.length:=by omega
  subst hie;have h1:¬((t.fields.length:Int)<(t.fields.length:Int)):=by omega
  rw[IJ]at hps;refine⟨cur,h,?_,he,by rw[<- hps];exact hC.loc⟩;rw[FL113_0];simp only[L113_0,bc,bj,xH,Hb h1,aR,aH,Gq,GH,EI hC.cell,aO,ib];rfl
 | succ r IH=>
  intro i ps cur h hr hi he hps hC;have hi1:i<t.fields.length:=by omega
  have h1:(i:Int)<(t.fields.length:Int):=by omega
  obtain⟨p,c,hp,hc,hld,hsrc⟩:=acc i hi1;have hmem:t.fields[i]∈t.fields:=GC hi1;have hps':∀y:AV,(ps++[(t.fields[i],y)]).map (·.1)=t.fields.take (i+1):=fun y=>by rw[Im,hps,List.take_succ_eq_append_getElem hi1];rfl
  have hpl:ps.length=i:=by have:=Gb List.length hps;rw[Hz,Gl]at this;omega
  generalize t.fields[i]=f at hld hsrc hmem hps';obtain⟨fs1,h2,hcall,e2,hl2⟩:=ih f hmem (.agg [.int .i64 f.2.kind,c]) h (hsrc.mono he.2);have hC2:=hC.ext e2;obtain⟨r',h3,hap,b1,b2,b3,b4,b5⟩:=y8 (h:=h2) (n0:=h0.length) (q:=(f,fs1)) (G5 he.1 e2.1) hC2 (hl2.mono (fun x hx q1=>⟨G5 he.1 q1,fun r'' hr'' hxr=>by
   rcases hC with⟨_,hC⟩|⟨r0,_,hC,_,h4,_⟩
   ·rw[hC]at hr'';cases hr''
   ·rw[hC]at hr'';cases hr''
    have:=fN h4
    omega⟩) (fun _ _ _=>rfl)) (by omega)
  have e3:Ap.cq h0 h3:=⟨by have:=e2.1;have:=he.1;omega,fun x hx=>(b5 x hx).trans ((e2.2 x (by have:=he.1;omega)).trans (he.2 x hx))⟩;have hC3:mK h3 h0.length d (ps++[(f,fs1)]) (.hs r' 0 (ps++[(f,fs1)]).length 3 true):=.inr ⟨r',by simp,rfl,b1,b2,b3⟩;obtain⟨fs',h',g1,g2,g3⟩:=IH (i+1) (ps++[(f,fs1)]) _ h3 (by omega) (by omega) e3 (hps' fs1) hC3;refine⟨fs',h',?_,g2,g3⟩;rw[<- g1,FL113_0];have hap':appH T 23 false cur (.sl [.agg [.str f.1,.int .i64 f.2.kind,fs1]]) h2=_:=hap;have hc1:ek (.hs r' 0 (ps++[(f,fs1)]).length 3 true)=aw (.hs r' 0 (ps++[(f,fs1)]).length 3 true):=rfl;simp only[L113_0,bc,bj,xH,GX h1,aR,aH,GP,hp,kL (hld h he),FF (BV _ _ hc),aO,ib,sD,zj,sE,xz,kL hcall,FE,Fu,kL hap',hc1,zk (k:=i) (by omega)]
theorem t113:∀(d:Nat)(t:Ty),a6 d t=true->∀(a:AV)(h:Hp),my h d a t->∃fs' h',ai pg 113 [a] h= .ok (.agg [.int .i64 t.kind,fs']) h'/\Ap.cq h h'/\cR h' d (fun x=>h.length<=x) fs' t.fields
 |0,_,hr=>by cases hr
 |d+1,t,hr=>fun a h hs=>by
  have h2:=hr;rw[bM]at h2;simp only[F8,Ge,Gk]at h2;obtain⟨fsv,rfl,hc,hlen,acc⟩:=mc hs (by omega);obtain⟨fs',h',g1,g2,g3⟩:=yH (by omega) hlen acc (fun f hf a h hs=>t113 d f.2 (h2.2.1 f hf).2 a h hs) (.int .i64 0) (.sl []) t.fields.length 0 [] .hn h rfl (Hi _) (cq.refl h) rfl (.inl ⟨rfl,rfl⟩);refine⟨fs',h',?_,g2,g3⟩;have hb:ct T true 35 [(0,.int .i64 t.kind)]=some (.agg [.int .i64 t.kind,.hn]):=rfl;rw[C113,<- g1];simp only[S113,ib,BW,Ei,BX,Ej,aR,hb,EI (c:=.hn) rfl,aO,hlen,bc,bj];rfl
def lk(a s:bO):Int:=if aC a s=true then -1 else if a=s then 0 else 1
theorem t115(n s:bO)(k:Int)(c:AV):ai pg 115 [.agg [.str n,.int .i64 k,c],.str s]=aw (.int .i64 (lk n s)):=by
 have h1:cl aB (.agg [.str n,.int .i64 k,c])= .agg [.str n,.int .i64 k,cl aB c]:=rfl;have h2:cl aB (.str s)= .str s:=rfl;have b1:az T .lss 9 (.str n) (.str s)=some (.bool (aC n s)):=rfl;have b2:az T .gtr 9 (.str n) (.str s)=some (.bool !(aC n s||n== s)):=rfl;rw[C115,h1,h2];have e:S115 (ai pg) au (.agg [.str n,.int .i64 k,cl aB c]) (.str s)=aw (.int .i64 (lk n s)):=by
  unfold lk;cases hl:aC n s with
  |true=>simp only[S115,ib,sD,sE,aR,b1,hl,aH,GP]
  | false=>
   by_cases he:n=s
   ·have hq:(n== s)=true:=GU.2 he;rw[if_neg (by simp),Gg he];simp only[S115,ib,sD,sE,aR,b1,b2,hl,hq,aH,Gq,GH,Bool.or_true,G3]
   ·have hq:(n== s)=false:=Ho.2 he;rw[if_neg (by simp),if_neg he];simp only[S115,ib,sD,sE,aR,b1,b2,hl,hq,aH,Gq,GH,Bool.or_false,Hj,GP]
 rw[e];exact gz _ _
def rj{h:Hp}{n0 d:Nat}{ps:List (bv×AV)}{cur:AV}(H:mK h n0 d ps cur){i:Nat}(hi:i<ps.length):∃r,cur= .hs r 0 ps.length 3 true/\n0<=r/\h[r]? = some (rowOf cv ps)/\(∀p∈ps,cR h d (fun x=>n0<=x/\x≠r) p.2 p.1.2.fields)/\
  ay T 23 cur (.int .i64 (i:Int))=some (.hp r (i*3))/\dH T 37 (.hp r (i*3)) h= .ok (.agg [.str ps[i].1.1,.int .i64 ps[i].1.2.kind,ps[i].2]) h:=by
 rcases H with⟨rfl,_⟩|⟨r,h1,rfl,h3,h4,h5⟩
 ·simp at hi
 ·have hrl:(rowOf cv ps).length=ps.length*3:=cD iQ ps;refine⟨r,rfl,h3,h4,h5,?_,?_⟩
  ·show (if 0<=(i:Int)/\(i:Int)<(ps.length:Nat)then some (AV.hp r (0+(i:Int).toNat*3))else none)=_;rw[Gg ⟨by omega,by omega⟩,GE,G6]
  ·have:=rP (T:=T) (t:=37) rfl rfl (h:=h) (l:=r) (k:=i*3) (cs:=rowOf cv ps) h4 (by rw[hrl];show i*3+3<=_;omega)
   rw[this];congr 1;show AV.agg (((rowOf cv ps).drop (i*3)).take 3)=_;rw[ee iQ ps i hi];rfl
def yo{h:Hp}{n0 d:Nat}{ps:List (bv×AV)}{cur:AV}(H:mK h n0 d ps cur):bq T 23 cur=some (.int .i64 ps.length):=by
 rcases H with⟨rfl,rfl⟩|⟨r,h1,rfl,h3,h4,h5⟩<;>rfl
def qT(ps:List (bv×AV)):Prop:=∀i j (hi:i<ps.length) (hj:j<ps.length),i<j->aC ps[i].1.1 ps[j].1.1=true
def half(a b:Nat)(h:a+b<=4611686018427387904):lm T 3 189 (.int .i64 ((a+b:Nat):Int))=some (.int .u64 ((a+b:Nat):Int))/\az T .shr 189 (.int .u64 ((a+b:Nat):Int)) (.int .u64 1)=some (.int .u64 (((a+b) / 2:Nat):Int))/\
  lm T 189 3 (.int .u64 (((a+b) / 2:Nat):Int))=some (.int .i64 (((a+b) / 2:Nat):Int)):=by
 refine⟨?_,?_,?_⟩
 ·show some (AV.int .u64 (IntKind.u64.wrap _))=_;rw[IntKind.wrap_u64];congr 2;omega
 ·show some (AV.int .u64 (Int.fdiv _ (2 ^ 1)))=_;rw[Int.fdiv_eq_ediv_of_nonneg _ (by decide)];congr 2
 ·show some (AV.int .i64 (IntKind.i64.wrap _))=_;rw[bR (by omega) (by omega)]
def yI{h:Hp}{n0 d:Nat}{ps:List (bv×AV)}{cur:AV}(H:mK h n0 d ps cur)(hn:ps.length<=1000000)(hA:qT ps)(s:bO):∀(r lo hi:Nat),hi-lo=r->lo<=hi->hi<=ps.length->(∀j (hj:j<ps.length),j<lo->aC ps[j].1.1 s=true)->(∀j (hj:j<ps.length),hi<=j->aC ps[j].1.1 s=false)->
  ∃k,k<=ps.length/\(∀j (hj:j<ps.length),j<k->aC ps[j].1.1 s=true)/\(∀j (hj:j<ps.length),k<=j->aC ps[j].1.1 s=false)/\
   au (L114_0 (ai pg) au) [cur,.str s,.fn (.func 115) [] [],.int .i64 ps.length,.int .i64 (lo:Int),.int .i64 (hi:Int)] h= .ok (.tup [.int .i64 (k:Int),.bool (decide (∃hk:k<ps.length,ps[k].1.1=s))]) h:=by
 intro r
 induction r using Nat.strongRecOn with
 | ind r IH=>
  intro lo hi hr hle hhi h1 h2;by_cases hlt:lo<hi
  ·have q1:(lo:Int)<(hi:Int):=by omega
   obtain⟨m,hm⟩:∃m,m=(lo+hi) / 2:=⟨_,rfl⟩;have hm1:lo<=m:=by omega
   have hm2:m<hi:=by omega
   have hmp:m<ps.length:=by omega
   obtain⟨rr,hcur,_,_,_,hix,hld⟩:=rj H hmp;obtain⟨c1,c2,c3⟩:=half lo hi (by omega);have hadd:az T BinOp.add 3 (.int .i64 (lo:Int)) (.int .i64 (hi:Int))=some (.int .i64 ((lo+hi:Nat):Int)):=by
    show some (AV.int .i64 (IntKind.i64.wrap ((lo:Int)+hi)))=_;rw[bR (by omega) (by omega)];congr 2
   have hcall:∀(n:bO)(k:Int)(c:AV),bJ (ai pg) (.fn (.func 115) [] []) [.agg [.str n,.int .i64 k,c],.str s]=aw (.int .i64 (lk n s)):=fun n k c=>t115 n s k c;rw[<- hm]at c2 c3;cases hl:aC ps[m].1.1 s with
   | true=>
    have q2:lk ps[m].1.1 s= -1:=by unfold lk;rw[Gg hl]
    obtain⟨k,k1,k2,k3,k4⟩:=IH (hi-(m+1)) (by omega) (m+1) hi rfl (by omega) hhi (fun j hj hjm=>by
     rcases Gp j m with hj2|hj2
     ·exact cM _ _ _ (hA j m hj hmp hj2) hl
     ·have:j=m:=by omega
      subst this;exact hl) h2
    refine⟨k,k1,k2,k3,?_⟩;rw[<- k4,FL114_0];simp only[L114_0,bc,bj,xH,GX q1,aR,aH,GP,hadd,c1,c2,c3,hix,kL hld,hcall,aO,q2,show decide ((-1:Int)<0)=true from rfl,zk (k:=m) (by omega)]
   | false=>
    have q2:¬lk ps[m].1.1 s<0:=by
     unfold lk;rw[hl,if_neg (by simp)];split<;>decide
    obtain⟨k,k1,k2,k3,k4⟩:=IH (m-lo) (by omega) lo m rfl hm1 (by omega) h1 (fun j hj hjm=>by
     rcases Nat.eq_or_lt_of_le hjm with hj2|hj2
     ·subst hj2;exact hl
     ·cases hq:aC ps[j].1.1 s with
      |false=>rfl
      |true=>rw[cM _ _ _ (hA m j hmp hj hj2) hq]at hl;cases hl)
    refine⟨k,k1,k2,k3,?_⟩;rw[<- k4,FL114_0];simp only[L114_0,bc,bj,xH,GX q1,aR,aH,GP,hadd,c1,c2,c3,hix,kL hld,hcall,aO,Hb q2,Gq,GH]
  ·have hlh:lo=hi:=by omega
   subst hlh;have q1:¬(lo:Int)<(lo:Int):=by omega
   refine⟨lo,hhi,h1,h2,?_⟩;have hcall:∀(n:bO)(k:Int)(c:AV),bJ (ai pg) (.fn (.func 115) [] []) [.agg [.str n,.int .i64 k,c],.str s]=aw (.int .i64 (lk n s)):=fun n k c=>t115 n s k c;have eqI:∀a b:Int,az T .eql 3 (.int .i64 a) (.int .i64 b)=some (.bool (a== b)):=fun _ _=>rfl;rw[FL114_0];by_cases hk:lo<ps.length
   ·have q3:(lo:Int)<(ps.length:Int):=by omega
    obtain⟨rr,hcur,_,_,_,hix,hld⟩:=rj H hk;have hl:=h2 lo hk (Ga _);have q4:(lk ps[lo].1.1 s== 0)=decide (∃hk:lo<ps.length,ps[lo].1.1=s):=by
     unfold lk;rw[hl,if_neg (by simp)];by_cases he:ps[lo].1.1=s
     ·rw[Gg he,GX ⟨hk,he⟩];rfl
     ·rw[if_neg he,Hb (fun⟨_,h⟩=>he h)];rfl
    simp only[L114_0,bc,bj,xH,Hb q1,GX q3,aR,aH,Gq,GH,bI,hix,cO,kL hld,hcall,aO,eqI,q4,cw];rfl
   ·have q3:¬(lo:Int)<(ps.length:Int):=by omega
    simp only[L114_0,bc,bj,xH,Hb q1,Hb q3,aR,aH,Gq,GH,eD,List.replicate,aO,cF];rw[Hb (fun⟨h,_⟩=>hk h)];rfl
def t114{h:Hp}{n0 d:Nat}{ps:List (bv×AV)}{cur:AV}(H:mK h n0 d ps cur)(hn:ps.length<=1000000)(hA:qT ps)(s:bO):
  ∃k,k<=ps.length/\(∀j (hj:j<ps.length),j<k->aC ps[j].1.1 s=true)/\(∀j (hj:j<ps.length),k<=j->aC ps[j].1.1 s=false)/\
   ai pg 114 [cur,.str s,.fn (.func 115) [] []] h= .ok (.tup [.int .i64 (k:Int),.bool (decide (∃hk:k<ps.length,ps[k].1.1=s))]) h:=by
 obtain⟨k,k1,k2,k3,k4⟩:=yI H hn hA s ps.length 0 ps.length rfl (Hi _) (Ga _) (fun j _ h=>by omega) (fun j hj h=>by omega);refine⟨k,k1,k2,k3,?_⟩;rw[C114,<- k4];simp only[S114,yo H,aR];rfl
theorem FG(a b:Int):az T .neq 3 (.int .i64 a) (.int .i64 b)=some (.bool (a != b)):=rfl
theorem yn{h:Hp}{n0 d:Nat}{ps:List (bv×AV)}{cur:AV}(hn0:n0<=h.length)(hC:mK h n0 d ps cur){q:bv×AV}(hq:cR h d (fun x=>n0<=x/\∀r,cur= .hs r 0 ps.length 3 true->x≠r) q.2 q.1.2.fields){k:Nat}(hk:k<=ps.length)(hl:ps.length<=1000):
  ∃r h',ai pg 116 [cur,.int .i64 (k:Int),.hs h.length 0 1 3 true] (h++[ae (cv q)])= .ok (.hs r 0 (ps.take k++q:: ps.drop k).length 3 true) h'/\mK h' n0 d (ps.take k++q:: ps.drop k) (.hs r 0 (ps.take k++q:: ps.drop k).length 3 true)/\h.length<=h'.length/\∀x,x<n0->h'[x]? = h[x]?:=by
 have hqc:=hq.cell;have hlv:(h++[ae (cv q)])[h.length]? = some (ae (cv q)):=by rw[Gn (Ga _),Hq,Gw]
 have hok:(decide (3<=(ae (cv q)).length)&&(ae (cv q)).all aE)=true:=by
  show (decide (3<=3)&&[AV.str q.1.1,.int .i64 q.1.2.kind,q.2].all aE)=true;rw[GO,GO,GO,hqc];rfl
 have ht3:(ae (cv q)).take 3=ae (cv q):=rfl;have hlq:(ps.take k++q:: ps.drop k).length=ps.length+1:=by
  rw[Gf,Gu,Gl,Hc];omega
 rw[gn aW (E:=rK) rfl];rcases hC with⟨rfl,rfl⟩|⟨r,h1,rfl,h3,h4,h5⟩
 ·have hk0:k=0:=by simpa using hk
  subst hk0;refine⟨h.length+1,(h++[ae (cv q)])++[ae (cv q)],?_,?_,by simp only[Gf,GZ,Gu,GM];omega,fun x hx=>by rw[Gc (by simp only[Gf,GZ,Gu,GM];omega),Gc (by omega)]⟩
  ·unfold rK;simp only[hlv,ht3,hok,F9];simp
  ·refine .inr ⟨h.length+1,by simp,rfl,by omega,?_,fun p hp=>?_⟩
   ·rw[Gn (by simp)];simp[rowOf]
   ·rw[List.take_nil,List.drop_nil,GQ,Hs]at hp;subst hp;exact hq.mono (fun x hx ⟨q1,_⟩=>⟨q1,by omega⟩) (fun x hx _=>by rw[Gc (by simp only[Gf,GZ,Gu,GM];omega),Gc hx])
 ·have hlt:=fN h4;have hrl:(rowOf cv ps).length=3*ps.length:=by rw[cD iQ];omega
  have hpos:0<ps.length:=Hw.2 h1;have hro:=tB (ps:=ps) fun p hp=>(h5 p hp).cell;have hr0:(h++[ae (cv q)])[r]? = some (rowOf cv ps):=by rw[Gc hlt];exact h4
  have hne:Nat.beq r h.length=false:=by
   rw[Hd];intro hh
   have:=Gh hh
   omega
  have hcnd:(decide ((0:Int)<=(k:Int))&&decide ((k:Int)<=ps.length)&&decide (ps.length<=1000)&&decide (0<ps.length)&&decide ((rowOf cv ps).length=3*ps.length)&&(rowOf cv ps).all aE&&!(Nat.beq r h.length))=true:=by
   rw[hro,hne,GX (p:=(0:Int)<=(k:Int)) (by omega),GX (p:=(k:Int)<=ps.length) (by omega),GX hl,GX hpos,GX hrl];rfl
  refine⟨h.length+1,((h++[ae (cv q)]).set r [])++[rowOf cv (ps.take k++q:: ps.drop k)],?_,?_,by simp only[Gf,GZ,Gu,GM];omega,fun x hx=>?_⟩
  ·unfold rK;simp only[hlv,ht3,hok,F9,hr0,hcnd,G6,y7 hk,hlq];simp
  ·refine .inr ⟨h.length+1,by simp,rfl,by omega,?_,fun p hp=>?_⟩
   ·rw[Gn (by simp)];simp
   ·have key:∀ {fs:AV} {l:List bv},cR h d (fun x=>n0<=x/\x≠r) fs l->cR (((h++[ae (cv q)]).set r [])++[rowOf cv (ps.take k++q:: ps.drop k)]) d (fun x=>n0<=x/\x≠h.length+1) fs l:=fun H=>H.mono (fun x hx ⟨q1,_⟩=>⟨q1,by omega⟩) (fun x hx ⟨_,q2⟩=>by
     rw[Gc (by simp only[Gf,GZ,Gu,GM];omega),G7 (by omega),Gc hx])
    rcases Gx.1 hp with hp|hp
    ·exact key (h5 p (Hg hp))
    ·rcases Gt.1 hp with rfl|hp
     ·exact key (hq.mono (fun x hx ⟨q1,q2⟩=>⟨q1,q2 r rfl⟩) (fun _ _ _=>rfl))
     ·exact key (h5 p (Hh hp))
  ·rw[Gc (by simp only[Gf,GZ,Gu,GM];omega),G7 (by omega),Gc (by omega)]
def yp{h:Hp}{n0 d:Nat}{ps:List (bv×AV)}{r:Nat}(h3:n0<=r)(h4:h[r]? = some (rowOf cv ps))(h5:∀p∈ps,cR h d (fun x=>n0<=x/\x≠r) p.2 p.1.2.fields){k:Nat}(hk:k<ps.length){t:Ty}{fs:AV}(ht:cR h d (fun x=>n0<=x/\x≠r) fs t.fields):
  ∃h',fS T 35 (.hp r (k*3+1)) (.agg [.int .i64 t.kind,fs]) h= .ok (.tup []) h'/\mK h' n0 d (ps.set k ((ps[k].1.1,t),fs)) (.hs r 0 ps.length 3 true)/\h.length<=h'.length/\∀x,x<n0->h'[x]? = h[x]?:=by
 have hlt:=fN h4;have hrl:(rowOf cv ps).length=ps.length*3:=cD iQ ps;have hs:=zb (T:=T) (t:=35) rfl (h:=h) (l:=r) (k:=k*3+1) (v:=.agg [.int .i64 t.kind,fs]) h4 (BU _ ht.cell) (by rw[hrl];show k*3+1+2<=_;omega) (by decide);have e:setCells (rowOf cv ps) (k*3+1) (ae (.agg [.int .i64 t.kind,fs]))=rowOf cv (ps.set k ((ps[k].1.1,t),fs)):=y9 hk t fs;rw[e]at hs;refine⟨_,hs,?_,by simp,fun x hx=>by rw[G7 (by omega)]⟩;have hne:ps.set k ((ps[k].1.1,t),fs)≠[]:=fun hh=>by
  have:=Gb List.length hh
  simp at this;rw[this]at hk;simp at hk
 refine .inr ⟨r,hne,by rw[GZ],h3,by rw[Ib hlt],fun p hp=>?_⟩;have key:∀ {fs:AV} {l:List bv},cR h d (fun x=>n0<=x/\x≠r) fs l->cR (h.set r (rowOf cv (ps.set k ((ps[k].1.1,t),fs)))) d (fun x=>n0<=x/\x≠r) fs l:=fun H=>H.mono (fun x hx hq=>hq) (fun x hx ⟨_,q2⟩=>by rw[G7 (by omega)]);have key2:∀ {fs':AV} {l:List bv},cR h d (fun x=>n0<=x/\x≠r) fs' l->cR (h.set r (rowOf cv (ps.set k ((ps[k].1.1,t),fs)))) d (fun x=>n0<=x/\x≠r) fs' l:=fun H=>H.mono (fun x hx hq=>hq) (fun x hx ⟨_,q2⟩=>by rw[G7 (by omega)]);rcases HZ hp with hp|rfl
 ·exact key2 (h5 p hp)
 ·exact key2 ht
structure LowC (d:Nat) (n0:Nat) (bl:List bv) (i:Nat) (h:Hp) (ps:List (bv×AV)) (cur:AV):Prop where
 nle:n0<=h.length
 cur:mK h n0 d ps cur
 asc:qT ps
 right:∀p∈ps,(∃f∈bl.drop i,p.1.1=f.1)->a6 d p.1.2=true
 len:ps.length+(bl.length-i)<=1000
def xT{ps:List (bv×AV)}(H:qT ps){k:Nat}(hk:k<ps.length)(t:Ty)(fs:AV):qT (ps.set k ((ps[k].1.1,t),fs)):=by
 have e:∀j (hj:j<(ps.set k ((ps[k].1.1,t),fs)).length),(ps.set k ((ps[k].1.1,t),fs))[j].1.1=(ps[j]'(by simpa using hj)).1.1:=fun j hj=>by
  rw[List.getElem_set];split
  ·rename_i h;subst h;rfl
  ·rfl
 intro i j hi hj hij;rw[e i hi,e j hj];exact H i j _ _ hij
def xS{ps:List (bv×AV)}(H:qT ps){k:Nat}(hk:k<=ps.length){q:bv×AV}(h1:∀j (hj:j<ps.length),j<k->aC ps[j].1.1 q.1.1=true)(h2:∀j (hj:j<ps.length),k<=j->aC q.1.1 ps[j].1.1=true):qT (ps.take k++q:: ps.drop k):=by
 have hL:(ps.take k++q:: ps.drop k).length=ps.length+1:=by rw[Gf,Gu,Gl,Hc];omega
 have e1:∀j (hj:j<(ps.take k++q:: ps.drop k).length) (hjk:j<k),(ps.take k++q:: ps.drop k)[j].1.1=(ps[j]'(by omega)).1.1:=fun j hj hjk=>by
  rw[List.getElem_append_left (by simp;omega),List.getElem_take]
 have e2:∀j (hj:j<(ps.take k++q:: ps.drop k).length),j=k->(ps.take k++q:: ps.drop k)[j].1.1=q.1.1:=fun j hj hjk=>by
  subst hjk;rw[IE (by simp;omega)];simp[Gl,Hu hk]
 have e3:∀j (hj:j<(ps.take k++q:: ps.drop k).length) (hjk:k<j),(ps.take k++q:: ps.drop k)[j].1.1=(ps[j-1]'(by omega)).1.1:=fun j hj hjk=>by
  rw[IE (by simp;omega)];have:j-(ps.take k).length=(j-k-1)+1:=by rw[Gl,Hu hk];omega
  simp only[this,List.getElem_cons_succ,List.getElem_drop];congr 3;omega
 intro i j hi hj hij;have hjl:j<ps.length+1:=by omega
 rcases Iz i k with hik|hik|hik
 ·rw[e1 i hi hik];rcases Iz j k with hjk|hjk|hjk
  ·rw[e1 j hj hjk];exact H i j _ _ hij
  ·rw[e2 j hj hjk];exact h1 i _ hik
  ·rw[e3 j hj hjk];exact H i (j-1) _ _ (by omega)
 ·rw[e2 i hi hik,e3 j hj (by omega)];exact h2 (j-1) _ (by omega)
 ·rw[e3 i hi hik,e3 j hj (by omega)];exact H (i-1) (j-1) _ _ (by omega)
theorem uK:ct T false 35 []=some (.agg [.int .i64 0,.sl []]):=rfl
theorem iK(b:Bool):iq .not (.bool b)=some (.bool !b):=rfl
theorem kE(a b:AV):bh (.tup [a,b]) 0=some a:=rfl
theorem kF(a b:AV):bh (.tup [a,b]) 1=some b:=rfl
theorem Fv(r k:Nat):aa T 37 (.hp r k) 1=some (.hp r (k+1)):=rfl
theorem FI{a b c:AV}(h:bo 3 (.agg [a,b,c])=true)(hp:Hp):fF T 23 1 [(0,.agg [a,b,c])] hp= .ok (.hs hp.length 0 1 3 true) (hp++[[a,b,c]]):=by
 have:bm T 23 1 [(0,.agg [a,b,c])]=some (.sl [.agg [a,b,c]]):=rfl;unfold fF;rw[this];have hs:b6 3 [.agg [a,b,c]]=true:=by
  show (bo 3 (.agg [a,b,c])&&b6 3 [])=true;rw[h];rfl
 show (bif b6 3 [.agg [a,b,c]]&&decide (0<3)&&decide (0<1)then R.ok _ _ else R.fail)=_;rw[hs];rfl
theorem Bm{d:Nat} (IH:∀a b:Ty,a6 d a=true->a6 d b=true->∀(av:AV)(h:Hp),my h d av a->
   match cd d a b with
   |some t=>∃fs' h',ai pg 73 [av,b.av] h= .ok (.tup [.agg [.int .i64 t.kind,fs'],.bool true]) h'/\Ap.cq h h'/\cR h' d (fun x=>h.length<=x) fs' t.fields
   |none=>∃h',ai pg 73 [av,b.av] h= .ok (.tup [.agg [.int .i64 0,.sl []],.bool false]) h'/\Ap.cq h h')
  {bl:List bv} (hb:bl.length<=8) (hbr:∀f∈bl,a6 d f.2=true) (hbn:bl.Pairwise fun f g=>f.1≠g.1) (n0:Nat) (kd:Int) (x3 x4:AV):
  ∀(r i:Nat)(ps:List (bv×AV))(cur:AV)(h:Hp),bl.length-i=r->i<=bl.length->LowC d n0 bl i h ps cur->
   match db (cd d) (ps.map (·.1)) (bl.drop i)with
   |some m=>∃fs' h',au (L73_0 (ai pg) au) [be bl,.int .i64 bl.length,.int .i64 (i:Int),x3,x4,.int .i64 kd,cur] h= .ok (.tup [.agg [.int .i64 kd,fs'],.bool true]) h'/\(h.length<=h'.length/\∀x,x<n0->h'[x]? = h[x]?)/\cR h' (d+1) (fun x=>n0<=x) fs' m
   |none=>∃h',au (L73_0 (ai pg) au) [be bl,.int .i64 bl.length,.int .i64 (i:Int),x3,x4,.int .i64 kd,cur] h= .ok (.tup [.agg [.int .i64 0,.sl []],.bool false]) h'/\(h.length<=h'.length/\∀x,x<n0->h'[x]? = h[x]?):=by
 intro r
 induction r with
 |zero=>
  intro i ps cur h hr hi C;have hie:i=bl.length:=by omega
  subst hie;have h1:¬((bl.length:Int)<(bl.length:Int)):=by omega
  rw[List.drop_length];refine⟨cur,h,?_,⟨Ga _,fun _ _=>rfl⟩,C.cur.loc⟩;rw[FL73_0];simp only[L73_0,bc,bj,xH,Hb h1,aR,aH,Gq,GH,EI C.cur.cell,aO,ib];rfl
 | succ r ihr=>
  intro i ps cur h hr hi C;have hi1:i<bl.length:=by omega
  have h1:(i:Int)<(bl.length:Int):=by omega
  have hmem:bl[i]∈bl:=GC hi1;have hdrop:bl.drop i=bl[i]:: bl.drop (i+1):=GA hi1;have hix:=oV (l:=bl) (n:=(i:Int)) (by omega) (by omega);rw[G6,G1 bl i hi1]at hix;have hfr:=hbr _ hmem;have hlater:∀g∈bl.drop (i+1),bl[i].1≠g.1:=by
   have:=(HK.1 (hdrop▸hbn.sublist (List.drop_sublist i bl))).1
   exact this
  rw[hdrop];have hCr:=C.right;rw[hdrop]at hCr;generalize bl[i]=f at hmem hix hfr hlater hCr;obtain⟨k,k1,k2,k3,k4⟩:=t114 C.cur (by have:=C.len;omega) C.asc f.1;have hB:gA (ps.map (·.1)) f.1=k:=ta (by simpa using k1) (fun j hj hjk=>by rw[HR];exact k2 j (by simpa using hj) hjk) (fun j hj hjk=>by rw[HR];exact k3 j (by simpa using hj) hjk);have hld:am T 37 (.ip (ae (bX f)))=some (.agg [.str f.1,.int .i64 f.2.kind,be f.2.fields]):=by rw[dB];rfl
  have hc:aE (be f.2.fields)=true:=rfl;have hcm:bn 3 (.agg [.str f.1,.int .i64 f.2.kind,be f.2.fields])=aw _:=FF (BV _ _ hc);have hfav:AV.agg [.int .i64 f.2.kind,be f.2.fields]=f.2.av:=(io _).symm;by_cases hk:∃hk:k<ps.length,ps[k].1.1=f.1
  ·obtain⟨hkl,hkn⟩:=hk;have hget:(ps.map (·.1))[k]? = some ps[k].1:=by rw[Hk,Gm hkl];rfl
   have hgo:db (cd d) (ps.map (·.1)) (f:: bl.drop (i+1))=match cd d ps[k].1.2 f.2 with
     |none=>none
     |some t=>db (cd d) ((ps.map (·.1)).set k (ps[k].1.1,t)) (bl.drop (i+1)):=by
    rw[db,hB,hget];simp only[hkn,GP];cases cd d ps[k].1.2 f.2<;>rfl
   rw[hgo];rw[GX ⟨hkl,hkn⟩]at k4;obtain⟨rr,hcur,hn0,hrow,hloc,hixr,hldr⟩:=rj C.cur hkl;have hpk:=hloc ps[k] (GC hkl);have hrl:(rowOf cv ps).length=ps.length*3:=cD iQ ps;have hldt:dH T 35 (.hp rr (k*3+1)) h= .ok (.agg [.int .i64 ps[k].1.2.kind,ps[k].2]) h:=by
    rw[rP (T:=T) (t:=35) rfl rfl (h:=h) (l:=rr) (k:=k*3+1) (cs:=rowOf cv ps) hrow (by rw[hrl];show k*3+1+2<=_;omega)];congr 1;show AV.agg (((rowOf cv ps).drop (k*3+1)).take 2)=_;rw[BK hkl]
   have hrr:=hCr ps[k] (GC hkl) ⟨f,Hf,hkn⟩;have ih:=IH ps[k].1.2 f.2 hrr hfr (.agg [.int .i64 ps[k].1.2.kind,ps[k].2]) h (.inr ⟨_,rfl,hpk.mono (fun _ _ _=>trivial) (fun _ _ _=>rfl)⟩);have hfa:=Fv rr (k*3);cases hlow:cd d ps[k].1.2 f.2 with
   |none=>
    rw[hlow]at ih;obtain⟨h',hcall,e1⟩:=ih;refine⟨h',?_,e1.1,fun x hx=>e1.2 x (by have:=C.nle;omega)⟩;rw[FL73_0];simp only[L73_0,bc,bj,xH,GX h1,aR,aH,GP,hix,hld,hcm,aO,ib,sD,sE,kL k4,kE,kF,iK,G3,Hj,Gq,GH,hixr,hfa,kL hldt,zj,xz,hfav,kL hcall,uK];rfl
   | some t=>
    rw[hlow]at ih;obtain⟨fs1,h2,hcall,e2,hl2⟩:=ih;have hlt:=fN hrow;obtain⟨h3,hst,hC3,b1,b2⟩:=yp (h:=h2) (n0:=n0) (d:=d) (ps:=ps) (r:=rr) hn0 (by rw[e2.2 rr hlt];exact hrow) (fun p hp=>(hloc p hp).mono (fun _ _ hx=>hx) (fun x hx _=>e2.2 x hx)) hkl (t:=t) (fs:=fs1) (hl2.mono (fun x _ hx=>⟨by have:=C.nle;omega,by omega⟩) (fun _ _ _=>rfl));have hmap:(ps.map (·.1)).set k (ps[k].1.1,t)=(ps.set k ((ps[k].1.1,t),fs1)).map (·.1):=by rw[List.map_set]
    simp only[hmap];have C3:LowC d n0 bl (i+1) h3 (ps.set k ((ps[k].1.1,t),fs1)) cur:=by
     refine⟨by have:=C.nle;have:=e2.1;omega,by rw[hcur];exact hC3,xT C.asc hkl t fs1,fun p hp ⟨g,hg,e⟩=>?_,by rw[GZ];have:=C.len;omega⟩;rcases HZ hp with hp|rfl
     ·exact hCr p hp ⟨g,GV _ hg,e⟩
     ·exact absurd (hkn.symm.trans e) (hlater g hg)
    have ih2:=ihr (i+1) _ cur h3 (by omega) (by omega) C3;have ecall:au (L73_0 (ai pg) au) [be bl,.int .i64 bl.length,.int .i64 (i:Int),x3,x4,.int .i64 kd,cur] h=au (L73_0 (ai pg) au) [be bl,.int .i64 bl.length,.int .i64 ((i+1:Nat):Int),x3,x4,.int .i64 kd,cur] h3:=by
     have hcm2:bn 2 (.agg [.int .i64 t.kind,fs1])=aw (.agg [.int .i64 t.kind,fs1]):=by rw[bT (BU _ hl2.cell)];rfl
     rw[FL73_0];simp only[L73_0,bc,bj,xH,GX h1,aR,aH,GP,hix,hld,hcm,aO,ib,sD,sE,kL k4,kE,kF,iK,G3,Hj,Gq,GH,hixr,hfa,kL hldt,zj,xz,hfav,kL hcall,hcm2,kL hst,zk (k:=i) (by omega)]
    rw[ecall];have hh:∀x,x<n0->h3[x]? = h[x]?:=fun x hx=>(b2 x hx).trans (e2.2 x (by have:=C.nle;omega));have hle:h.length<=h3.length:=G5 e2.1 b1;split
    ·rename_i m hm;rw[hm]at ih2;obtain⟨fs',h',g1,g2,g3⟩:=ih2;exact⟨fs',h',g1,⟨G5 hle g2.1,fun x hx=>(g2.2 x hx).trans (hh x hx)⟩,g3⟩
    ·rename_i hm;rw[hm]at ih2;obtain⟨h',g1,g2⟩:=ih2;exact⟨h',g1,G5 hle g2.1,fun x hx=>(g2.2 x hx).trans (hh x hx)⟩
  ·rw[Hb hk]at k4;obtain⟨fs1,h2,hcall,e2,hl2⟩:=t113 d f.2 hfr f.2.av h (.inl rfl);have hC2:=C.cur.ext e2;obtain⟨r',h3,hins,hC3,b1,b2⟩:=yn (h:=h2) (n0:=n0) (d:=d) (ps:=ps) (cur:=cur) (G5 C.nle e2.1) hC2 (q:=(f,fs1)) (hl2.mono (fun x _ hx=>⟨by have:=C.nle;omega,fun r'' hr'' hxr=>by
    rcases C.cur with⟨_,hC⟩|⟨r0,_,hC,_,h4,_⟩
    ·rw[hC]at hr'';cases hr''
    ·rw[hC]at hr'';cases hr''
     have:=fN h4
     omega⟩) (fun _ _ _=>rfl)) k1 (by have:=C.len;omega)
   have hgo:db (cd d) (ps.map (·.1)) (f:: bl.drop (i+1))=db (cd d) ((ps.take k++(f,fs1):: ps.drop k).map (·.1)) (bl.drop (i+1)):=by
    have e:(ps.take k++(f,fs1):: ps.drop k).map (·.1)=(ps.map (·.1)).take k++f:: (ps.map (·.1)).drop k:=by simp
    rw[db,hB,e];cases hg:(ps.map (·.1))[k]? with
    |none=>rfl
    |some g=>
     obtain⟨hg1,hg2⟩:=HE.1 hg;rw[HR]at hg2;have:¬g.1=f.1:=fun e=>hk ⟨by simpa using hg1,by rw[hg2];exact e⟩;simp only[this,GH]
   rw[hgo];have hgt:∀j (hj:j<ps.length),k<=j->aC f.1 ps[j].1.1=true:=fun j hj hkj=>by
    have hkl:k<ps.length:=by omega
    have hkk:aC f.1 ps[k].1.1=true:=fe _ _ (k3 k hkl (Ga _)) (fun e=>hk ⟨hkl,e⟩);rcases Nat.eq_or_lt_of_le hkj with e|hlt
    ·subst e;exact hkk
    ·exact cM _ _ _ hkk (C.asc k j hkl hj hlt)
   have hln:(ps.take k++(f,fs1):: ps.drop k).length=ps.length+1:=by
    rw[Gf,Gu,Gl,Hc];omega
   have C3:LowC d n0 bl (i+1) h3 (ps.take k++(f,fs1):: ps.drop k) (.hs r' 0 (ps.take k++(f,fs1):: ps.drop k).length 3 true):=by
    refine⟨by have:=C.nle;have:=e2.1;omega,hC3,xS C.asc k1 (q:=(f,fs1)) k2 hgt,fun p hp ⟨g,hg,e⟩=>?_,by rw[hln];have:=C.len;omega⟩;rcases Gx.1 hp with hp|hp
    ·exact hCr p (Hg hp) ⟨g,GV _ hg,e⟩
    ·rcases Gt.1 hp with rfl|hp
     ·exact absurd e (hlater g hg)
     ·exact hCr p (Hh hp) ⟨g,GV _ hg,e⟩
   have ih2:=ihr (i+1) _ _ h3 (by omega) (by omega) C3;have ecall:au (L73_0 (ai pg) au) [be bl,.int .i64 bl.length,.int .i64 (i:Int),x3,x4,.int .i64 kd,cur] h=au (L73_0 (ai pg) au) [be bl,.int .i64 bl.length,.int .i64 ((i+1:Nat):Int),x3,x4,.int .i64 kd,.hs r' 0 (ps.take k++(f,fs1):: ps.drop k).length 3 true] h3:=by
    have hbh:=FI (BV f.1 f.2.kind hl2.cell) h2;have hins':ai pg 116 [cur,.int .i64 (k:Int),.hs h2.length 0 1 3 true] (h2++[[.str f.1,.int .i64 f.2.kind,fs1]])=_:=hins;have hc1:ek (.hs r' 0 (ps.take k++(f,fs1):: ps.drop k).length 3 true)=aw (.hs r' 0 (ps.take k++(f,fs1):: ps.drop k).length 3 true):=rfl;rw[FL73_0];simp only[L73_0,bc,bj,xH,GX h1,aR,aH,GP,hix,hld,hcm,aO,ib,sD,sE,kL k4,kE,kF,iK,G3,Hj,Gq,GH,zj,xz,hfav,kL hcall,FE,kL hbh,kL hins',hc1,zk (k:=i) (by omega)]
   rw[ecall];have hh:∀x,x<n0->h3[x]? = h[x]?:=fun x hx=>(b2 x hx).trans (e2.2 x (by have:=C.nle;omega));have hle:h.length<=h3.length:=G5 e2.1 b1;split
   ·rename_i m hm;rw[hm]at ih2;obtain⟨fs',h',g1,g2,g3⟩:=ih2;exact⟨fs',h',g1,⟨G5 hle g2.1,fun x hx=>(g2.2 x hx).trans (hh x hx)⟩,g3⟩
   ·rename_i hm;rw[hm]at ih2;obtain⟨h',g1,g2⟩:=ih2;exact⟨h',g1,G5 hle g2.1,fun x hx=>(g2.2 x hx).trans (hh x hx)⟩
def mw(t:Ty):Prop:=∀n,Ty.Short n t
def mw.len{t:Ty}(h:mw t):t.fields.length<=1000000000:=(h 1).1
def mw.kid{t:Ty}(h:mw t){f:bv}(hf:f∈t.fields):mw f.2:=fun n=>(h (n+1)).2 f hf
def ma{d:Nat}{t:Ty}(h:a6 d t=true):mw t:=eC d t h
def yv{t:Ty}{f:bv}(h:f∈t.fields):SizeOf.sizeOf f.2<SizeOf.sizeOf t:=by
 cases t with
 |mk k fs=>
  have h1:=HP (show f∈fs from h);obtain⟨n,t⟩:=f;simp only[HV,Ty.mk.sizeOf_spec]at h1 |-;have:SizeOf.sizeOf t<SizeOf.sizeOf ((n,t):bv):=by simp only[HV];omega
  simp only[HV]at this;omega
def uJ(f:bv)(fs l:List bv):fB (f:: fs) l=(match xG f l with|some x=>[x]|none=>[])++fB fs l:=by
 simp only[fB];rfl
theorem sA(f:bv)(l:List bv):xG f l=match bY (fun z=>z.1== f.1) l with
  |some z=>(match nM f.2 z.2 with|some u=>some (f.1,u)|none=>none)
  |none=>none:=by
 obtain⟨n,t⟩:=f;simp only[xG];rfl
def Bb(n:bO)(t:Ty):ct T false 37 [(0,.str n),(1,t.av)]=some (bX (n,t)):=by
 cases t;rfl
def FH(f:bv):bm T 23 1 [(0,bX f)]=some (be [f]):=by
 obtain⟨n,t⟩:=f;cases t;rfl
theorem xX(l:List bv):ek (be l)=aw (be l):=rfl
def Bn(b:Ty)(hb:mw b)(l:List bv)(hl:l.length<=1000000000)(k:Int)(x4 x5:AV)(hk:∀f∈l,∀t:Ty,mw t->ai pg 74 [f.2.av,t.av]=aw (match nM f.2 t with|some u=>.tup [u.av,.bool true]|none=>.tup [ty0.av,.bool false])):∀(n i:Nat)(acc:List bv),l.length-i=n->i<=l.length->acc.length<=i->
  au (L74_0 (ai pg) au) [.ip (ae b.av),be l,.int .i64 l.length,.int .i64 i,x4,x5,.int .i64 k,be acc]=aw (.tup [(Ty.mk k (acc++fB (l.drop i) b.fields)).av,.bool true]):=by
 intro n
 induction n with
 |zero=>
  intro i acc hn hi ha;have h1:¬((i:Int)<(l.length:Int)):=by omega
  have h2:l.drop i=[]:=G0 (by omega);have h3:aK 2 [] (.agg [.int .i64 k,be acc])=aw (.agg [.int .i64 k,be acc]):=bz rfl;rw[FL74_0,h2];simp[L74_0,h1,fB,h3];rfl
 | succ n ih=>
  intro i acc hn hi ha;have hlt:i<l.length:=by omega
  have h1:(i:Int)<(l.length:Int):=by omega
  have h2:l.drop i=l[i]:: l.drop (i+1):=GA hlt;have hw:IntKind.i64.wrap ((i:Int)+1)=(i:Int)+1:=jP (by omega);have hix:=oV (l:=l) (n:=(i:Int)) (by omega) h1;rw[G6,G1 l i hlt]at hix;have hk':=hk l[i] (GC hlt);have hlk:=t112 b.fields hb.len l[i].1;have ih2:∀acc:List bv,acc.length<=i+1->au (L74_0 (ai pg) au) [.ip (ae b.av),be l,.int .i64 l.length,.int .i64 ((i:Int)+1),x4,x5,.int .i64 k,be acc]=aw (.tup [(Ty.mk k (acc++fB (l.drop (i+1)) b.fields)).av,.bool true]):=fun acc ha=>ih (i+1) acc (by omega) (by omega) ha;simp only[gH]at ih2;rw[FL74_0,h2,uJ,sA];generalize l[i]=f at hix hk' hlk |-;cases hz:bY (fun z:bv=>z.1== f.1) b.fields with
  |none=>
   rw[hz]at hlk;have ih':=ih2 acc (by omega);simp[L74_0,h1,hix,hlk,hw,ih']
  | some z=>
   rw[hz]at hlk;have hc:=hk' z.2 (hb.kid (jF hz).1);cases hu:nM f.2 z.2 with
   |none=>
    rw[hu]at hc;have ih':=ih2 acc (by omega);simp[L74_0,h1,hix,hlk,hw,hc,hu,ih']
   |some u=>
    rw[hu]at hc;have ih':=ih2 (acc++[(f.1,u)]) (by simp;omega);have hap:=EJ (a:=acc) (b:=[(f.1,u)]) (by simp;omega);simp[L74_0,h1,hix,hlk,hw,hc,hu,Bb,FH,hap,xX,ih']
theorem t74(a b:Ty)(ha:mw a)(hb:mw b):ai pg 74 [a.av,b.av]=aw (match nM a b with|some u=>.tup [u.av,.bool true]|none=>.tup [ty0.av,.bool false]):=by
 have hloop:=Bn b hb a.fields ha.len a.kind (.int .i64 0) (.sl []) (fun f hf t ht=>by
  have:=yv hf
  exact t74 f.2 t (ha.kid hf) ht) a.fields.length 0 [] rfl (Hi _) (Hi _)
 rw[C74];have e1:nM a b=if a.kind=b.kind then some (.mk a.kind (fB a.fields b.fields))else none:=by
  cases a;cases b;simp only[nM,Ty.kind,Ty.fields];rfl
 have b1:ct T false 35 []=some ty0.av:=rfl;have b2:∀k:Int,ct T true 35 [(0,.int .i64 k)]=some (.agg [.int .i64 k,.hn]):=fun k=>rfl;have b3:∀k:Int,aK 2 [1] (.agg [.int .i64 k,.hn])=aw (.agg [.int .i64 k,.hn]):=fun k=>rfl;rw[e1];simp only[It,GQ]at hloop;by_cases hk:a.kind=b.kind
 ·have hk':(a.kind != b.kind)=false:=by simp[hk]
  rw[Gg hk];have hloop':au (L74_0 (ai pg) au) [.ip (ae b.av),be a.fields,.int .i64 a.fields.length,.int .i64 0,.int .i64 0,.sl [],.int .i64 a.kind,.sl []]=aw (.tup [(Ty.mk a.kind (fB a.fields b.fields)).av,.bool true]):=hloop;simp only[gH]at hloop';simp[S74,hk',b2,b3,hloop'];exact bF fun g=>by simp[cl,cU]
 ·have hk':(a.kind != b.kind)=true:=by simp[hk]
  rw[if_neg hk];simp[S74,hk',b1];exact bF fun g=>by simp[cl,cU]
termination_by SizeOf.sizeOf a
def jh{d:Nat}{t:Ty}(h:a6 (d+1) t=true):t.fields.length<=8/\(∀f∈t.fields,a6 d f.2=true)/\t.fields.Pairwise fun f g=>aC f.1 g.1=true:=by
 rw[bM]at h;simp only[F8,Ge,Gk]at h;exact⟨h.1.1.2,fun f hf=>(h.2.1 f hf).2,gJ (nm:=fun f:bv=>f.1) (fun x y h=>(fE _ _).1 h) _ h.2.2⟩
theorem t73:∀(d:Nat)(a b:Ty),a6 d a=true->a6 d b=true->∀(av:AV)(h:Hp),my h d av a->
   match cd d a b with
   |some t=>∃fs' h',ai pg 73 [av,b.av] h= .ok (.tup [.agg [.int .i64 t.kind,fs'],.bool true]) h'/\Ap.cq h h'/\cR h' d (fun x=>h.length<=x) fs' t.fields
   |none=>∃h',ai pg 73 [av,b.av] h= .ok (.tup [.agg [.int .i64 0,.sl []],.bool false]) h'/\Ap.cq h h'
 |0,_,_,ha,_=>by cases ha
 | d + 1,a,b,ha,hb=>fun av h hs=>by
  obtain⟨a1,a2,a3⟩:=jh ha;obtain⟨b1,b2,b3⟩:=jh hb;have hfre:=t113 (d+1) a ha av h hs;obtain⟨fsv,rfl,hc,hlen,acc⟩:=mc hs (by omega);have hbav:b.av= .agg [.int .i64 b.kind,be b.fields]:=io b;have hLB:=uP b.fields;by_cases hk:a.kind=b.kind
  ·have hne:(a.kind != b.kind)=false:=by rw[hk];exact bne_self_eq_false _
   obtain⟨fs1,h1,hcall,e1,hl1⟩:=hfre;obtain⟨ps,hps,hC⟩:=mK.of hl1;have hpl:ps.length=a.fields.length:=by rw[<- hps,Hz]
   have hL:=Bm (t73 d) b1 b2 (b3.imp fun{x y} h e=>by rw[e,cX]at h;cases h) h.length a.kind (.int .i64 0) (.sl []) b.fields.length 0 ps fs1 h1 rfl (Hi _)
    ⟨e1.1,hC,fun i j hi hj hij=>by
     have:=List.pairwise_iff_getElem.1 a3 i j (by omega) (by omega) hij
     simp only[<- hps,HR]at this;exact this,fun p hp _=>a2 p.1 (by rw[<- hps];exact List.mem_map_of_mem hp),by omega⟩
   rw[It,hps]at hL;have hS:∀r,au (L73_0 (ai pg) au) [be b.fields,.int .i64 b.fields.length,.int .i64 ((0:Nat):Int),.int .i64 0,.sl [],.int .i64 a.kind,fs1] h1=r->ai pg 73 [.agg [.int .i64 a.kind,fsv],b.av] h=r:=fun r hr=>by
    rw[<- hr,C73,hbav];simp only[S73,ib,BW,Ei,BX,Ej,aR,FG,hne,aH,Gq,GH,xz,kL hcall,EI hl1.cell,aO,hLB,bc,bj];rfl
   have hlow:cd (d+1) a b=match db (cd d) a.fields b.fields with
     |none=>none
     |some l=>some (.mk a.kind l):=by
    show (if a.kind=b.kind then _ else none)=_;rw[Gg hk];cases db (cd d) a.fields b.fields<;>rfl
   rw[hlow];cases hg:db (cd d) a.fields b.fields with
   |none=>
    rw[hg]at hL;obtain⟨h',g1,g2⟩:=hL;exact⟨h',hS _ g1,by have:=e1.1;have:=g2.1;omega,fun x hx=>(g2.2 x hx).trans (e1.2 x hx)⟩
   |some l=>
    rw[hg]at hL;obtain⟨fs',h',g1,g2,g3⟩:=hL;exact⟨fs',h',hS _ g1,⟨by have:=e1.1;have:=g2.1;omega,fun x hx=>(g2.2 x hx).trans (e1.2 x hx)⟩,g3⟩
  ·have hne:(a.kind != b.kind)=true:=by rw[bne_iff_ne];exact hk
   have hlow:cd (d+1) a b=none:=by
    show (if a.kind=b.kind then _ else none)=_;rw[if_neg hk]
   rw[hlow];refine⟨h,?_,cq.refl h⟩;rw[C73,hbav];have hz:aK 2 [] (.agg [.int .i64 0,.sl []])=aw (.agg [.int .i64 0,.sl []]):=rfl;simp only[S73,ib,BW,BX,aR,FG,hne,aH,GP,uK,hz,aO,bc,bj];rfl
def uO(t:Ty):am T 35 (.ip (ae t.av))=some t.av:=by cases t;rfl
def Cn(t:Ty):bn 2 t.av=aw t.av:=by rw[io];rfl
def BS(t:Ty):aK 2 [] t.av=aw t.av:=by rw[io];rfl
def pairT(o:Option Ty):AV:=match o with
 |some t=>.tup [t.av,.bool true]
 |none=>.tup [(Ty.mk 0 []).av,.bool false]
def jy{m:M AV}{a r:AV}{h':Hp}(h1:m []= .ok a h')(h2:Av.gO 6 h' a=r):aX m=aw r:=by
 funext h;unfold aX;rw[h1];show R.ok (Av.gO 6 h' a) h=_;rw[h2];rfl
def iN(g)(o:Option Ty):cl g (pairT o)=pairT o:=by cases o<;>simp[pairT,cl,cU]
def nD(t:Ty):pairT (some t)= .tup [.agg [.int .i64 t.kind,be t.fields],.bool true]:=by
 show AV.tup [t.av,.bool true]=_;rw[io]
def kD(a b:Bool)(k:AV->M AV):af (ax (.bool a) false 1 (aw [.bool b])) (fun v=>af (aj (aV (.bool a) (.bool true) (ah v 0))) k)=k (.bool (a||b)):=by
 cases a<;>rfl
theorem t36(a b:Ty)(ha:a.Lim)(hb:b.Lim):ai pg 36 [a.av,b.av]=aw (pairT (eN a b)):=by
 have hA:=t23 a ha;have hB:=t23 b hb;rw[C36,jY,jY];have hz:aK 2 [] (.agg [.int .i64 0,.sl []])=aw (.agg [.int .i64 0,.sl []]):=rfl;cases h1:bd a&&bd b with
 | false=>
  have e:S36 (ai pg) au a.av b.av=aw (pairT none):=by
   have h2:(!bd a||!bd b)=true:=by cases h3:bd a<;>cases h4:bd b<;>simp_all
   simp only[S36,uO,aR,hA,hB,aO,iK,kD,h2,aH,GP,uK,hz,ib,bc,bj];rfl
  have e2:eN a b=none:=by unfold eN;rw[h1];rfl
  rw[e,e2];exact bF fun g=>iN g none
 | true=>
  have h2:(!bd a||!bd b)=false:=by cases h3:bd a<;>cases h4:bd b<;>simp_all
  rw[F8]at h1;have hlow:=t73 4 a b h1.1 h1.2 a.av [] (.inl rfl);cases hl:cd 4 a b with
  |none=>
   rw[hl]at hlow;obtain⟨h',g1,g2⟩:=hlow;have e2:eN a b=none:=by unfold eN;rw[Gg (by rw[h1.1,h1.2];rfl),hl]
   have hf:pO (.tup [.agg [.int .i64 0,.sl []],.bool false]) h'= .ok (.tup [.agg [.int .i64 0,.sl []],.bool false]) (h'.map fun _=>[]):=rfl;have hc:bn 2 (.agg [.int .i64 0,.sl []])=aw (.agg [.int .i64 0,.sl []]):=rfl;rw[e2];refine jy (a:=pairT none) (h':=h'.map fun _=>[]) ?_ rfl;simp only[S36,uO,aR,hA,hB,aO,iK,kD,h2,aH,Gq,GH,cO,kL g1,kL hf,kE,kF,hc,Hj,fj,bI,eD,eJ,List.replicate,cw,cF,GP,uK,hz,ib,bc,bj];rfl
  | some t=>
   rw[hl]at hlow;obtain⟨fs',h',g1,g2,g3⟩:=hlow;have hfr:Av.gO 6 h' (.tup [.agg [.int .i64 t.kind,fs'],.bool true])= .tup [t.av,.bool true]:=by
    have:=g3.frz (n:=6) (by omega)
    rw[io];show AV.tup [.agg [.int .i64 t.kind,Av.gO 6 h' fs'],.bool true]=_;rw[this]
   have hf:pO (.tup [.agg [.int .i64 t.kind,fs'],.bool true]) h'= .ok (.tup [t.av,.bool true]) (h'.map fun _=>[]):=by
    show R.ok (Av.gO 6 h' _) _=_;rw[hfr]
   have hT:=t23 t (fun n=>td n 4 a b t h1.1 h1.2 hl);cases ht:bd t with
   | true=>
    rw[ht]at hT;have e2:eN a b=some t:=by unfold eN;rw[Gg (by rw[h1.1,h1.2];rfl),hl];simp only[ht,GP]
    rw[e2];refine jy (a:=pairT (some t)) (h':=h'.map fun _=>[]) ?_ ?_
    ·simp only[S36,uO,aR,hA,hB,aO,iK,kD,h2,aH,Gq,GH,cO,kL g1,kL hf,kE,kF,Cn,G3,bI,hT,cw,cF,aH,Gq,GH,BS,bc,bj];rw[io,nD];rfl
    ·exact iN _ (some t)
   |false=>
    rw[ht]at hT;have e2:eN a b=none:=by unfold eN;rw[Gg (by rw[h1.1,h1.2];rfl),hl];simp only[ht,Gq,GH]
    rw[e2];refine jy (a:=pairT none) (h':=h'.map fun _=>[]) ?_ rfl;simp only[S36,uO,aR,hA,hB,aO,iK,kD,h2,aH,Gq,GH,cO,kL g1,kL hf,kE,kF,Cn,G3,Hj,bI,hT,cw,cF,GP,uK,hz,ib,bc,bj];rfl
def nj(a b:Ty):Option Ty:=if bd a&&bd b then nM a b else none
theorem t37(a b:Ty)(ha:a.Lim)(hb:b.Lim):ai pg 37 [a.av,b.av]=aw (pairT (nj a b)):=by
 have hA:=t23 a ha;have hB:=t23 b hb;have hz:aK 2 [] (.agg [.int .i64 0,.sl []])=aw (.agg [.int .i64 0,.sl []]):=rfl;rw[C37,jY,jY];unfold nj;cases h1:bd a&&bd b with
 | false=>
  have h2:(!bd a||!bd b)=true:=by cases h3:bd a<;>cases h4:bd b<;>simp_all
  have e:S37 (ai pg) au a.av b.av=aw (pairT none):=by
   simp only[S37,uO,aR,hA,hB,aO,iK,kD,h2,aH,GP,uK,hz,ib,bc,bj];rfl
  rw[e];exact bF fun g=>iN g none
 | true=>
  have h2:(!bd a||!bd b)=false:=by cases h3:bd a<;>cases h4:bd b<;>simp_all
  rw[F8]at h1;have hU:=t74 a b (ma h1.1) (ma h1.2);have e:S37 (ai pg) au a.av b.av=aw (pairT (nM a b)):=by
   cases hu:nM a b with
   |none=>
    rw[hu]at hU;have hc:aK 2 [] ty0.av=aw ty0.av:=BS ty0;simp only[S37,uO,aR,hA,hB,aO,iK,kD,h2,aH,Gq,GH,hU,kE,kF,hc];rfl
   |some u=>
    rw[hu]at hU;simp only[S37,uO,aR,hA,hB,aO,iK,kD,h2,aH,Gq,GH,hU,kE,kF,BS];rw[io,nD];rfl
  rw[e];exact bF fun g=>iN g _
end Go.Proofs.YtihmmkncokjbaaaGreatDoor
