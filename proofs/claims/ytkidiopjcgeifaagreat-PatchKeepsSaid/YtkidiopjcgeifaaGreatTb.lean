/- What the functions compute, part 2. Conditions: bounds. -/
import Derived.Test.YtkidiopjcgeifaaGreatTa
import Derived.Test.YtkidiopjcgeifaaGreatLd
import Derived.Maps.AppendAt
set_option linter.defProp false
set_option linter.unusedSimpArgs false
set_option linter.unusedVariables false
namespace Go.Proofs.YtkidiopjcgeifaaGreat
open Go Go.Av Go.Av.Ap
set_option maxRecDepth 100000
structure RQ (p:Prop):Type
instance {p:Prop}:CoeSort (RQ p) Prop:=⟨fun _=>p⟩
def dc(t:TypeId)(i j l k:Nat):RQ (ar T t (.hp l k) i=some (.hp l (k+j))):=⟨⟩
def db(t:TypeId)(i j:Nat)(cs:List AV):RQ (ar T t (.ip cs) i=some (.ip (cs.drop j))):=⟨⟩
def oG(t:TypeId)(i:Nat)(cs:List AV):RQ (ay T t (.ip cs)=if i<=cs.length then some (.agg (cs.take i))else none):=⟨⟩
def ji(t:TypeId)(x:AV)(l:List AV):RQ (ay T t (.ip (x:: l))=some x):=⟨⟩
def nR(t:TypeId):RQ (ff T t .hn=some (.int .i64 0)):=⟨⟩
def nQ(t:TypeId)(es:List AV):RQ (ff T t (.sl es)=some (.int .i64 es.length)):=⟨⟩
def nS(t:TypeId)(l k n s:Nat)(a:Bool):RQ (ff T t (.hs l k n s a)=some (.int .i64 n)):=⟨⟩
section
variable (l k:Nat)
@[simp] theorem FH27_0:dc 27 0 0 l k:=rfl
@[simp] theorem FH27_1:dc 27 1 1 l k:=rfl
@[simp] theorem FH27_2:dc 27 2 2 l k:=rfl
@[simp] theorem FH29_0:dc 29 0 0 l k:=rfl
@[simp] theorem FH29_1:dc 29 1 1 l k:=rfl
@[simp] theorem FH29_2:dc 29 2 2 l k:=rfl
@[simp] theorem FH29_3:dc 29 3 3 l k:=rfl
@[simp] theorem FH29_4:dc 29 4 4 l k:=rfl
@[simp] theorem FH29_5:dc 29 5 5 l k:=rfl
@[simp] theorem FH29_6:dc 29 6 6 l k:=rfl
@[simp] theorem FH43_0:dc 43 0 0 l k:=rfl
@[simp] theorem FH43_1:dc 43 1 1 l k:=rfl
@[simp] theorem FH52_0:dc 52 0 0 l k:=rfl
@[simp] theorem FH52_1:dc 52 1 1 l k:=rfl
@[simp] theorem FH54_0:dc 54 0 0 l k:=rfl
@[simp] theorem FH54_1:dc 54 1 1 l k:=rfl
@[simp] theorem FH54_2:dc 54 2 2 l k:=rfl
@[simp] theorem FH54_3:dc 54 3 3 l k:=rfl
@[simp] theorem FH54_4:dc 54 4 4 l k:=rfl
@[simp] theorem FH54_5:dc 54 5 5 l k:=rfl
@[simp] theorem FH56_0:dc 56 0 0 l k:=rfl
@[simp] theorem FH56_1:dc 56 1 1 l k:=rfl
@[simp] theorem FH56_2:dc 56 2 2 l k:=rfl
@[simp] theorem FH56_3:dc 56 3 3 l k:=rfl
@[simp] theorem FH56_4:dc 56 4 5 l k:=rfl
@[simp] theorem FH56_5:dc 56 5 6 l k:=rfl
@[simp] theorem FH60_0:dc 60 0 0 l k:=rfl
@[simp] theorem FH60_1:dc 60 1 1 l k:=rfl
@[simp] theorem FH62_0:dc 62 0 0 l k:=rfl
@[simp] theorem FH62_1:dc 62 1 1 l k:=rfl
@[simp] theorem FH62_2:dc 62 2 2 l k:=rfl
@[simp] theorem FH62_3:dc 62 3 3 l k:=rfl
@[simp] theorem FH67_0:dc 67 0 0 l k:=rfl
@[simp] theorem FH67_1:dc 67 1 1 l k:=rfl
@[simp] theorem FH67_2:dc 67 2 5 l k:=rfl
@[simp] theorem FH67_3:dc 67 3 6 l k:=rfl
@[simp] theorem FH67_4:dc 67 4 7 l k:=rfl
@[simp] theorem FH72_0:dc 72 0 0 l k:=rfl
@[simp] theorem FH72_1:dc 72 1 1 l k:=rfl
@[simp] theorem FH72_2:dc 72 2 2 l k:=rfl
@[simp] theorem FH79_0:dc 79 0 0 l k:=rfl
@[simp] theorem FH79_1:dc 79 1 1 l k:=rfl
@[simp] theorem FH93_0:dc 93 0 0 l k:=rfl
@[simp] theorem FH93_1:dc 93 1 9 l k:=rfl
@[simp] theorem FH93_2:dc 93 2 10 l k:=rfl
@[simp] theorem FH101_0:dc 101 0 0 l k:=rfl
@[simp] theorem FH101_1:dc 101 1 1 l k:=rfl
@[simp] theorem FH101_2:dc 101 2 2 l k:=rfl
@[simp] theorem FH101_3:dc 101 3 4 l k:=rfl
@[simp] theorem FH157_0:dc 157 0 0 l k:=rfl
@[simp] theorem FH157_1:dc 157 1 1 l k:=rfl
@[simp] theorem FH159_0:dc 159 0 0 l k:=rfl
@[simp] theorem FH159_1:dc 159 1 3 l k:=rfl
@[simp] theorem FH163_0:dc 163 0 0 l k:=rfl
@[simp] theorem FH163_1:dc 163 1 1 l k:=rfl
@[simp] theorem FH166_0:dc 166 0 0 l k:=rfl
@[simp] theorem FH166_1:dc 166 1 1 l k:=rfl
@[simp] theorem FH170_0:dc 170 0 0 l k:=rfl
@[simp] theorem FH170_1:dc 170 1 1 l k:=rfl
@[simp] theorem FH197_0:dc 197 0 0 l k:=rfl
@[simp] theorem FH197_1:dc 197 1 1 l k:=rfl
@[simp] theorem FH203_0:dc 203 0 0 l k:=rfl
@[simp] theorem FH203_1:dc 203 1 1 l k:=rfl
@[simp] theorem FH203_2:dc 203 2 2 l k:=rfl
@[simp] theorem FH203_3:dc 203 3 3 l k:=rfl
@[simp] theorem FH203_4:dc 203 4 4 l k:=rfl
@[simp] theorem FH265_0:dc 265 0 0 l k:=rfl
@[simp] theorem FH265_1:dc 265 1 1 l k:=rfl
@[simp] theorem FH265_2:dc 265 2 2 l k:=rfl
end
section
variable (cs:List AV)
@[simp] theorem FA27_0:db 27 0 0 cs:=rfl
@[simp] theorem FA27_1:db 27 1 1 cs:=rfl
@[simp] theorem FA27_2:db 27 2 2 cs:=rfl
@[simp] theorem FA29_0:db 29 0 0 cs:=rfl
@[simp] theorem FA29_1:db 29 1 1 cs:=rfl
@[simp] theorem FA29_2:db 29 2 2 cs:=rfl
@[simp] theorem FA29_3:db 29 3 3 cs:=rfl
@[simp] theorem FA29_4:db 29 4 4 cs:=rfl
@[simp] theorem FA29_5:db 29 5 5 cs:=rfl
@[simp] theorem FA29_6:db 29 6 6 cs:=rfl
@[simp] theorem FA43_0:db 43 0 0 cs:=rfl
@[simp] theorem FA43_1:db 43 1 1 cs:=rfl
@[simp] theorem FA52_0:db 52 0 0 cs:=rfl
@[simp] theorem FA52_1:db 52 1 1 cs:=rfl
@[simp] theorem FA54_0:db 54 0 0 cs:=rfl
@[simp] theorem FA54_1:db 54 1 1 cs:=rfl
@[simp] theorem FA54_2:db 54 2 2 cs:=rfl
@[simp] theorem FA54_3:db 54 3 3 cs:=rfl
@[simp] theorem FA54_4:db 54 4 4 cs:=rfl
@[simp] theorem FA54_5:db 54 5 5 cs:=rfl
@[simp] theorem FA56_0:db 56 0 0 cs:=rfl
@[simp] theorem FA56_1:db 56 1 1 cs:=rfl
@[simp] theorem FA56_2:db 56 2 2 cs:=rfl
@[simp] theorem FA56_3:db 56 3 3 cs:=rfl
@[simp] theorem FA56_4:db 56 4 5 cs:=rfl
@[simp] theorem FA56_5:db 56 5 6 cs:=rfl
@[simp] theorem FA60_0:db 60 0 0 cs:=rfl
@[simp] theorem FA60_1:db 60 1 1 cs:=rfl
@[simp] theorem FA62_0:db 62 0 0 cs:=rfl
@[simp] theorem FA62_1:db 62 1 1 cs:=rfl
@[simp] theorem FA62_2:db 62 2 2 cs:=rfl
@[simp] theorem FA62_3:db 62 3 3 cs:=rfl
@[simp] theorem FA67_0:db 67 0 0 cs:=rfl
@[simp] theorem FA67_1:db 67 1 1 cs:=rfl
@[simp] theorem FA67_2:db 67 2 5 cs:=rfl
@[simp] theorem FA67_3:db 67 3 6 cs:=rfl
@[simp] theorem FA67_4:db 67 4 7 cs:=rfl
@[simp] theorem FA72_0:db 72 0 0 cs:=rfl
@[simp] theorem FA72_1:db 72 1 1 cs:=rfl
@[simp] theorem FA72_2:db 72 2 2 cs:=rfl
@[simp] theorem FA79_0:db 79 0 0 cs:=rfl
@[simp] theorem FA79_1:db 79 1 1 cs:=rfl
@[simp] theorem FA93_0:db 93 0 0 cs:=rfl
@[simp] theorem FA93_1:db 93 1 9 cs:=rfl
@[simp] theorem FA93_2:db 93 2 10 cs:=rfl
@[simp] theorem FA101_0:db 101 0 0 cs:=rfl
@[simp] theorem FA101_1:db 101 1 1 cs:=rfl
@[simp] theorem FA101_2:db 101 2 2 cs:=rfl
@[simp] theorem FA101_3:db 101 3 4 cs:=rfl
@[simp] theorem FA157_0:db 157 0 0 cs:=rfl
@[simp] theorem FA157_1:db 157 1 1 cs:=rfl
@[simp] theorem FA159_0:db 159 0 0 cs:=rfl
@[simp] theorem FA159_1:db 159 1 3 cs:=rfl
@[simp] theorem FA163_0:db 163 0 0 cs:=rfl
@[simp] theorem FA163_1:db 163 1 1 cs:=rfl
@[simp] theorem FA166_0:db 166 0 0 cs:=rfl
@[simp] theorem FA166_1:db 166 1 1 cs:=rfl
@[simp] theorem FA170_0:db 170 0 0 cs:=rfl
@[simp] theorem FA170_1:db 170 1 1 cs:=rfl
@[simp] theorem FA197_0:db 197 0 0 cs:=rfl
@[simp] theorem FA197_1:db 197 1 1 cs:=rfl
@[simp] theorem FA203_0:db 203 0 0 cs:=rfl
@[simp] theorem FA203_1:db 203 1 1 cs:=rfl
@[simp] theorem FA203_2:db 203 2 2 cs:=rfl
@[simp] theorem FA203_3:db 203 3 3 cs:=rfl
@[simp] theorem FA203_4:db 203 4 4 cs:=rfl
@[simp] theorem FA265_0:db 265 0 0 cs:=rfl
@[simp] theorem FA265_1:db 265 1 1 cs:=rfl
@[simp] theorem FA265_2:db 265 2 2 cs:=rfl
end
section
variable (cs:List AV)
@[simp] theorem LD27:oG 27 3 cs:=rfl
@[simp] theorem LD29:oG 29 9 cs:=rfl
@[simp] theorem LD43:oG 43 2 cs:=rfl
@[simp] theorem LD52:oG 52 2 cs:=rfl
@[simp] theorem LD54:oG 54 6 cs:=rfl
@[simp] theorem LD56:oG 56 12 cs:=rfl
@[simp] theorem LD60:oG 60 2 cs:=rfl
@[simp] theorem LD62:oG 62 4 cs:=rfl
@[simp] theorem LD67:oG 67 8 cs:=rfl
@[simp] theorem LD72:oG 72 3 cs:=rfl
@[simp] theorem LD79:oG 79 3 cs:=rfl
@[simp] theorem LD101:oG 101 5 cs:=rfl
@[simp] theorem LD126:oG 126 3 cs:=rfl
@[simp] theorem LD157:oG 157 2 cs:=rfl
@[simp] theorem LD159:oG 159 9 cs:=rfl
@[simp] theorem LD163:oG 163 2 cs:=rfl
@[simp] theorem LD166:oG 166 2 cs:=rfl
@[simp] theorem LD170:oG 170 2 cs:=rfl
@[simp] theorem LD197:oG 197 2 cs:=rfl
@[simp] theorem LD265:oG 265 3 cs:=rfl
end
section
variable (x:AV) (l:List AV)
@[simp] theorem LD3:ji 3 x l:=rfl
@[simp] theorem LD4:ji 4 x l:=rfl
@[simp] theorem LD9:ji 9 x l:=rfl
@[simp] theorem LD22:ji 22 x l:=rfl
@[simp] theorem LD23:ji 23 x l:=rfl
@[simp] theorem LD24:ji 24 x l:=rfl
@[simp] theorem LD25:ji 25 x l:=rfl
@[simp] theorem LD30:ji 30 x l:=rfl
@[simp] theorem LD31:ji 31 x l:=rfl
@[simp] theorem LD32:ji 32 x l:=rfl
@[simp] theorem LD38:ji 38 x l:=rfl
@[simp] theorem LD41:ji 41 x l:=rfl
@[simp] theorem LD63:ji 63 x l:=rfl
@[simp] theorem LD64:ji 64 x l:=rfl
@[simp] theorem LD65:ji 65 x l:=rfl
@[simp] theorem LD91:ji 91 x l:=rfl
@[simp] theorem LD99:ji 99 x l:=rfl
@[simp] theorem LD110:ji 110 x l:=rfl
@[simp] theorem LD116:ji 116 x l:=rfl
@[simp] theorem LD118:ji 118 x l:=rfl
@[simp] theorem LD154:ji 154 x l:=rfl
@[simp] theorem LD155:ji 155 x l:=rfl
@[simp] theorem LD160:ji 160 x l:=rfl
@[simp] theorem LD161:ji 161 x l:=rfl
@[simp] theorem LD164:ji 164 x l:=rfl
@[simp] theorem LD167:ji 167 x l:=rfl
@[simp] theorem LD168:ji 168 x l:=rfl
@[simp] theorem LD173:ji 173 x l:=rfl
@[simp] theorem LD179:ji 179 x l:=rfl
@[simp] theorem LD201:ji 201 x l:=rfl
@[simp] theorem LD256:ji 256 x l:=rfl
end
@[simp] theorem aaz:nR 22:=rfl
@[simp] theorem aaA:nR 23:=rfl
@[simp] theorem aaB:nR 24:=rfl
@[simp] theorem aaC:nR 25:=rfl
@[simp] theorem aaD:nR 30:=rfl
@[simp] theorem aaE:nR 31:=rfl
@[simp] theorem aaF:nR 32:=rfl
@[simp] theorem aaG:nR 36:=rfl
@[simp] theorem aaH:nR 41:=rfl
@[simp] theorem aaI:nR 57:=rfl
@[simp] theorem aaJ:nR 63:=rfl
@[simp] theorem aaK:nR 64:=rfl
@[simp] theorem aaL:nR 65:=rfl
@[simp] theorem aaM:nR 73:=rfl
@[simp] theorem aaN:nR 99:=rfl
@[simp] theorem ZN:nR 173:=rfl
@[simp] theorem ZO:nR 179:=rfl
@[simp] theorem ZP:nR 287:=rfl
@[simp] theorem ZQ:nR 290:=rfl
@[simp] theorem ZR:nR 292:=rfl
@[simp] theorem ZS:nR 294:=rfl
section
variable (es:List AV)
@[simp] theorem WI:nQ 22 es:=rfl
@[simp] theorem Rw:nQ 23 es:=rfl
@[simp] theorem WJ:nQ 24 es:=rfl
@[simp] theorem WK:nQ 25 es:=rfl
@[simp] theorem WL:nQ 30 es:=rfl
@[simp] theorem WM:nQ 31 es:=rfl
@[simp] theorem WN:nQ 32 es:=rfl
@[simp] theorem WO:nQ 36 es:=rfl
@[simp] theorem WP:nQ 41 es:=rfl
@[simp] theorem WQ:nQ 57 es:=rfl
@[simp] theorem WR:nQ 63 es:=rfl
@[simp] theorem WS:nQ 64 es:=rfl
@[simp] theorem WT:nQ 65 es:=rfl
@[simp] theorem ab9:nQ 73 es:=rfl
@[simp] theorem WU:nQ 99 es:=rfl
@[simp] theorem aaa:nQ 173 es:=rfl
@[simp] theorem aab:nQ 179 es:=rfl
@[simp] theorem aac:nQ 287 es:=rfl
@[simp] theorem aad:nQ 290 es:=rfl
@[simp] theorem aae:nQ 292 es:=rfl
@[simp] theorem aaf:nQ 294 es:=rfl
end
section
variable (l k n s:Nat) (a:Bool)
@[simp] theorem aal:nS 22 l k n s a:=rfl
@[simp] theorem Sw:nS 23 l k n s a:=rfl
@[simp] theorem aam:nS 24 l k n s a:=rfl
@[simp] theorem aan:nS 25 l k n s a:=rfl
@[simp] theorem aao:nS 30 l k n s a:=rfl
@[simp] theorem aap:nS 31 l k n s a:=rfl
@[simp] theorem aaq:nS 32 l k n s a:=rfl
@[simp] theorem aar:nS 36 l k n s a:=rfl
@[simp] theorem aas:nS 41 l k n s a:=rfl
@[simp] theorem aat:nS 57 l k n s a:=rfl
@[simp] theorem aau:nS 63 l k n s a:=rfl
@[simp] theorem aav:nS 64 l k n s a:=rfl
@[simp] theorem aaw:nS 65 l k n s a:=rfl
@[simp] theorem aax:nS 73 l k n s a:=rfl
@[simp] theorem aay:nS 99 l k n s a:=rfl
@[simp] theorem ZH:nS 173 l k n s a:=rfl
@[simp] theorem ZI:nS 179 l k n s a:=rfl
@[simp] theorem ZJ:nS 287 l k n s a:=rfl
@[simp] theorem ZK:nS 290 l k n s a:=rfl
@[simp] theorem ZL:nS 292 l k n s a:=rfl
@[simp] theorem ZM:nS 294 l k n s a:=rfl
end
@[simp] theorem aag(s:aA):ff T 9 (.str s)=some (.int .i64 s.length):=rfl
@[simp] theorem lk(l:List aA):ff T 22 (strs l)=some (.int .i64 l.length):=(WI _).trans AI
@[simp] theorem oM(l:List ca):ff T 23 (aE l)=some (.int .i64 l.length):=(Rw _).trans (by simp[eZ])
@[simp] theorem xj(l:List Exp):ff T 24 (bg l)=some (.int .i64 l.length):=(WJ _).trans (by simp[ki])
@[simp] theorem Ss(l:List Fun):ff T 25 (eL l)=some (.int .i64 l.length):=(WK _).trans AI
@[simp] theorem xk(l:List Mod):ff T 30 (mods l)=some (.int .i64 l.length):=(WL _).trans AI
@[simp] theorem Cj(l:List Val):ff T 31 (vals l)=some (.int .i64 l.length):=(WM _).trans (by simp[fT])
@[simp] theorem LQ(l:List Int):ff T 32 (ints l)=some (.int .i64 l.length):=(WN _).trans AI
@[simp] theorem uo(l:List Face):ff T 36 (faces l)=some (.int .i64 l.length):=(WO _).trans AI
@[simp] theorem aah(l:List Sig):ff T 41 (sigs l)=some (.int .i64 l.length):=(WP _).trans AI
@[simp] theorem aai(l:List aX):ff T 57 (dx l)=some (.int .i64 l.length):=(WQ _).trans AI
@[simp] theorem aaj(l:List Deed):ff T 63 (deeds l)=some (.int .i64 l.length):=(WR _).trans AI
@[simp] theorem Su(l:List Ap.Call):ff T 64 (Ap.calls l)=some (.int .i64 l.length):=(WS _).trans AI
@[simp] theorem Sv(l:List Vars):ff T 65 (cH l)=some (.int .i64 l.length):=(WT _).trans AI
@[simp] theorem aak(l:List Ty):ff T 99 (kN l)=some (.int .i64 l.length):=(WU _).trans AI
def pH{l:List aA}{n:Int}(h0:0<=n)(h:n<(l.length:Int)):ax T 22 (strs l) (qi n)=some (.ip (ab (AV.str l[n.toNat]!))):=bi (T:=T) (t:=22) (e:=9) rfl rfl rfl (fun _=>by first|rfl|(simp;done)|(simp;rfl)) h0 h
def lP{l:List ca}{n:Int}(h0:0<=n)(h:n<(l.length:Int)):ax T 23 (aE l) (qi n)=some (.ip (ab (aR l[n.toNat]!))):=by rw[aE,eZ];exact bi (T:=T) (t:=23) (e:=79) rfl rfl rfl (fun _=>by first|rfl|(simp;done)|(simp;rfl)) h0 h
theorem lj{l:List Exp}{n:Int}(h0:0<=n)(h:n<(l.length:Int)):ax T 24 (bg l) (qi n)=some (.ip (ab (Exp.av l[n.toNat]!))):=by rw[bg,ki];exact bi (T:=T) (t:=24) (e:=54) rfl rfl rfl (fun _=>by first|rfl|(simp;done)|(simp;rfl)) h0 h
def sW{l:List Fun}{n:Int}(h0:0<=n)(h:n<(l.length:Int)):ax T 25 (eL l) (qi n)=some (.ip (ab (Fun.av l[n.toNat]!))):=bi (T:=T) (t:=25) (e:=56) rfl rfl rfl (fun _=>by first|rfl|(simp;done)|(simp;rfl)) h0 h
def D8{l:List Mod}{n:Int}(h0:0<=n)(h:n<(l.length:Int)):ax T 30 (mods l) (qi n)=some (.ip (ab (Mod.av l[n.toNat]!))):=bi (T:=T) (t:=30) (e:=29) rfl rfl rfl (fun _=>by first|rfl|(simp;done)|(simp;rfl)) h0 h
def un{l:List Val}{n:Int}(h0:0<=n)(h:n<(l.length:Int)):ax T 31 (vals l) (qi n)=some (.ip (ab (Val.av l[n.toNat]!))):=by rw[vals,fT];exact bi (T:=T) (t:=31) (e:=62) rfl rfl rfl (fun _=>by first|rfl|(simp;done)|(simp;rfl)) h0 h
def Sq{l:List Int}{n:Int}(h0:0<=n)(h:n<(l.length:Int)):ax T 32 (ints l) (qi n)=some (.ip (ab (qi l[n.toNat]!))):=bi (T:=T) (t:=32) (e:=3) rfl rfl rfl (fun _=>by first|rfl|(simp;done)|(simp;rfl)) h0 h
def WF{l:List Face}{n:Int}(h0:0<=n)(h:n<(l.length:Int)):ax T 36 (faces l) (qi n)=some (.ip (ab (Face.av l[n.toNat]!))):=bi (T:=T) (t:=36) (e:=43) rfl rfl rfl (fun _=>by first|rfl|(simp;done)|(simp;rfl)) h0 h
def O2{l:List Sig}{n:Int}(h0:0<=n)(h:n<(l.length:Int)):ax T 41 (sigs l) (qi n)=some (.ip (ab (Sig.av l[n.toNat]!))):=bi (T:=T) (t:=41) (e:=101) rfl rfl rfl (fun _=>by first|rfl|(simp;done)|(simp;rfl)) h0 h
theorem Sr{l:List aX}{n:Int}(h0:0<=n)(h:n<(l.length:Int)):ax T 57 (dx l) (qi n)=some (.ip (ab (dj l[n.toNat]!))):=bi (T:=T) (t:=57) (e:=60) rfl rfl rfl (fun _=>by first|rfl|(simp;done)|(simp;rfl)) h0 h
def WG{l:List Deed}{n:Int}(h0:0<=n)(h:n<(l.length:Int)):ax T 63 (deeds l) (qi n)=some (.ip (ab (Deed.av l[n.toNat]!))):=bi (T:=T) (t:=63) (e:=126) rfl rfl rfl (fun _=>by first|rfl|(simp;done)|(simp;rfl)) h0 h
def O3{l:List Ap.Call}{n:Int}(h0:0<=n)(h:n<(l.length:Int)):ax T 64 (Ap.calls l) (qi n)=some (.ip (ab (Ap.Call.av l[n.toNat]!))):=bi (T:=T) (t:=64) (e:=72) rfl rfl rfl (fun _=>by first|rfl|(simp;done)|(simp;rfl)) h0 h
def O4{l:List Vars}{n:Int}(h0:0<=n)(h:n<(l.length:Int)):ax T 65 (cH l) (qi n)=some (.ip (ab (Vars.av l[n.toNat]!))):=bi (T:=T) (t:=65) (e:=197) rfl rfl rfl (fun _=>by first|rfl|(simp;done)|(simp;rfl)) h0 h
def Ci{l:List Ty}{n:Int}(h0:0<=n)(h:n<(l.length:Int)):ax T 99 (kN l) (qi n)=some (.ip (ab (Ty.av l[n.toNat]!))):=bi (T:=T) (t:=99) (e:=52) rfl rfl rfl (fun _=>by first|rfl|(simp;done)|(simp;rfl)) h0 h
def wI{a b:List aA}(h:(a.length+b.length)*16<=140737488355328):dL T 22 (strs a) (strs b)=some (strs (a++b)):=by
 have:=ga (T:=T) (t:=22) (e:=9) rfl rfl rfl (f:=AV.str) (fun _=>by first|rfl|(simp;done)|(simp;rfl)) (a:=a) (b:=b) h Vc
 simpa [strs]using this
def LM{a b:List ca}(h:(a.length+b.length)*48<=140737488355328):dL T 23 (aE a) (aE b)=some (aE (a++b)):=by
 have:=ga (T:=T) (t:=23) (e:=79) rfl rfl rfl (f:=aR) (fun _=>by first|rfl|(simp;done)|(simp;rfl)) (a:=a) (b:=b) h Vc
 simpa [aE,eZ]using this
def Wy{a b:List Exp}(h:(a.length+b.length)*96<=140737488355328):dL T 24 (bg a) (bg b)=some (bg (a++b)):=by
 have:=ga (T:=T) (t:=24) (e:=54) rfl rfl rfl (f:=Exp.av) (fun _=>by first|rfl|(simp;done)|(simp;rfl)) (a:=a) (b:=b) h Vc
 simpa [bg,ki]using this
def Wz{a b:List Mod}(h:(a.length+b.length)*192<=140737488355328):dL T 30 (mods a) (mods b)=some (mods (a++b)):=by
 have:=ga (T:=T) (t:=30) (e:=29) rfl rfl rfl (f:=Mod.av) (fun _=>by first|rfl|(simp;done)|(simp;rfl)) (a:=a) (b:=b) h Vc
 simpa [mods]using this
def OZ{a b:List Val}(h:(a.length+b.length)*64<=140737488355328):dL T 31 (vals a) (vals b)=some (vals (a++b)):=by
 have:=ga (T:=T) (t:=31) (e:=62) rfl rfl rfl (f:=Val.av) (fun _=>by first|rfl|(simp;done)|(simp;rfl)) (a:=a) (b:=b) h Vc
 simpa [vals,fT]using this
def Z6{a b:List Face}(h:(a.length+b.length)*40<=140737488355328):dL T 36 (faces a) (faces b)=some (faces (a++b)):=by
 have:=ga (T:=T) (t:=36) (e:=43) rfl rfl rfl (f:=Face.av) (fun _=>by first|rfl|(simp;done)|(simp;rfl)) (a:=a) (b:=b) h Vc
 simpa [faces]using this
def Z7{a b:List aX}(h:(a.length+b.length)*32<=140737488355328):dL T 57 (dx a) (dx b)=some (dx (a++b)):=by
 have:=ga (T:=T) (t:=57) (e:=60) rfl rfl rfl (f:=dj) (fun _=>by first|rfl|(simp;done)|(simp;rfl)) (a:=a) (b:=b) h Vc
 simpa [dx]using this
def Z8{a b:List Vars}(h:(a.length+b.length)*40<=140737488355328):dL T 65 (cH a) (cH b)=some (cH (a++b)):=by
 have:=ga (T:=T) (t:=65) (e:=197) rfl rfl rfl (f:=Vars.av) (fun _=>by first|rfl|(simp;done)|(simp;rfl)) (a:=a) (b:=b) h Vc
 simpa [cH]using this
def Sj{a b:List Ty}(h:(a.length+b.length)*32<=140737488355328):dL T 99 (kN a) (kN b)=some (kN (a++b)):=by
 have:=ga (T:=T) (t:=99) (e:=52) rfl rfl rfl (f:=Ty.av) (fun _=>by first|rfl|(simp;done)|(simp;rfl)) (a:=a) (b:=b) h Vc
 simpa [kN]using this
theorem aa5(a b:aX):vK T 20 60 (dj a) (dj b)=some (decide (a=b)):=by
 obtain⟨a1,a2⟩:=a;obtain⟨b1,b2⟩:=b;have h:vK T 20 60 (dj (a1,a2)) (dj (b1,b2))=(match some (a1== b1)with|some true=>(match some (a2== b2)with|some true=>some true|some false=>some false|none=>none)|some false=>some false|none=>none):=rfl;rw[h];by_cases h1:a1=b1
 ·by_cases h2:a2=b2
  ·grind
  ·have e2:(a2== b2)=false:=acM.2 h2;subst h1;simp[e2,h2]
 ·have e1:(a1== b1)=false:=acM.2 h1;simp[e1,h1]
def Dm{V:Type}:List (aX×V)->aX->Nat->Option (Nat×V)
 |[],_,_=>none
 |x:: r,k,i=>if x.1=k then some (i,x.2)else Dm r k (i+1)
theorem xY{V:Type}(f:V->AV):∀(l:List (aX×V))(k:aX)(i:Nat),gC T 60 (dj k) (l.map (gB f)) i=some ((Dm l k i).map fun p=>(p.1,dj k,f p.2))
 |[],k,i=>rfl
 | x:: r,k,i=>by
  simp only[ac3,gB,gC,aa5,Dm];by_cases h:k=x.1
  ·subst h;simp
  ·have h':¬(x.1=k):=fun e=>h e.symm;simp only[h,adg,h',acI];exact xY f r k (i+1)
theorem FX{V:Type}:∀(l:List (aX×V))(k:aX)(i:Nat),(Dm l k i).map (·.2)=jL l k
 |[],_,_=>rfl
 |x:: r,k,i=>by
  simp only[Dm,jL];by_cases h:x.1=k
  ·simp[h]
  ·simp only[h,acI];exact FX r k (i+1)
theorem FY{V:Type}(v:V):∀(l:List (aX×V))(k:aX)(i:Nat),(Dm l k i=none/\kX l k v=l++[(k,v)])\/∃j u,Dm l k i=some (i+j,u)/\j<l.length/\kX l k v=l.set j (k,v)
 |[],k,i=>.inl ⟨rfl,rfl⟩
 | x:: r,k,i=>by
  simp only[Dm,kX];by_cases h:x.1=k
  ·simp_all
  ·simp only[h,acI];rcases FY v r k (i+1)with⟨h1,h2⟩|⟨j,u,h1,h2,h3⟩
   ·grind
   ·exact .inr ⟨j+1,u,qr,by simpa using h2,by rw[h3];rfl⟩
def JH{V:Type}(f:V->AV)(l:List (aX×V))(k:aX)(v:V):uY T 60 (l.map (gB f)) (dj k) (f v)=some ((kX l k v).map (gB f)):=by
 unfold uY;rw[xY];rcases FY v l k 0 with⟨h1,h2⟩|⟨j,u,h1,h2,h3⟩
 ·rw[h1,h2];simp[gB]
 ·rw[h1,h3];have hs:Gg (dj k) (dj k)=true:=by
   show (k.1== k.1&&(k.2== k.2&&true))=true;rw[adU,adU];rfl
  simp only[adv,hs,acD,ac8,List.map_set];rfl
theorem NG{V:Type}(f:V->AV){t et:Nat}{ei:TI}(hm:jY T t=some (60,et))(he:T et=some ei)(l:List (aX×V))(k:aX)(ok:Bool):
  pF T t (l.map (gB f)) (dj k) ok=some (match jL l k with|some v=>(bif ok then .tup [f v,.bool true]else f v)|none=>(bif ok then .tup [jm ei,.bool false]else jm ei)):=by
 unfold pF;have hc:GO T 20 60 (dj k)=true:=rfl;simp only[hm,hc,acD,he,xY];rw[<- FX l k 0];cases Dm l k 0<;>rfl
def wx(n:aA):AV:=.tup [.str n,.bool true]
theorem eqS(a b:aA):vK T 20 9 (.str a) (.str b)=some (a== b):=rfl
theorem uE:∀(l:List aA)(n:aA)(i:Nat),∃r,gC T 9 (.str n) (l.map wx) i=some r/\((n∈l/\∃j,r=some (j,.str n,.bool true))\/(n ∉ l/\r=none))
 |[],n,i=>⟨none,rfl,.inr ⟨AI,rfl⟩⟩
 | x:: l,n,i=>by
  simp only[ac3,wx,gC,eqS];by_cases h:n=x
  ·grind
  ·have e:(n== x)=false:=acM.2 h;rw[e];obtain⟨r,h1,h2⟩:=uE l n (i+1)
   grind
theorem K4(l:List aA)(n:aA):pF T 138 (l.map wx) (.str n) false=some (.bool (decide (n∈l))):=by
 unfold pF;have hm:jY T 138=some (9,4):=rfl;have hc:GO T 20 9 (.str n)=true:=rfl;have hz:∃ei,T 4=some ei/\jm ei= .bool false:=⟨_,rfl,rfl⟩;obtain⟨ei,hz1,hz2⟩:=hz;obtain⟨r,h1,h2⟩:=uE l n 0
 grind
def Oa(l:List aA)(n:aA)(h:n ∉ l):uY T 9 (l.map wx) (.str n) (.bool true)=some ((l++[n]).map wx):=by
 unfold uY;obtain⟨r,h1,h2⟩:=uE l n 0;rcases h2 with⟨h2,_⟩|⟨_,rfl⟩
 all_goals grind [wx]
theorem R5:jY T 118=some (60,56):=rfl
theorem NQ:jY T 116=some (60,60):=rfl
theorem Y9:jY T 256=some (60,4):=rfl
theorem Y8:jY T 138=some (9,4):=rfl
end Go.Proofs.YtkidiopjcgeifaaGreat
namespace Go.Proofs.YtkidiopjcgeifaaGreat
open Go Go.Av
set_option maxRecDepth 1000000
instance dr0:Dr:=⟨False⟩
def Ak{p:Prop}(h:Dr.on):p:=False.elim h
def V1:(tab.map fun x=>V2 Tryz.prog x.1)=tab.map fun x=>some x.2:=BT
theorem A5:(l:List (Nat×TI))->(t:Nat)->(ti:TI)->Jf l t=some ti->(t,ti)∈l
 |[],t,ti,h=>by cases h
 | (k,x):: r,t,ti,h=>by
  simp only[Jf]at h;cases hk:Nat.beq k t with
  |true=>
   simp_all
  |false=>
   rw[hk]at h;exact adA _ (A5 r t ti h)
theorem sD{α β:Type}{f g:α->β}:{l:List α} ->l.map f=l.map g->∀x∈l,f x=g x
 |[],_,x,hx=>by cases hx
 |a:: l,h,x,hx=>by
  simp only[ac3,adN]at h;rcases ac2.1 hx with rfl|hx
  all_goals simp_all
def tok:TOK Tryz.prog T:=⟨fun t ti h=>sD V1 (t,ti) (A5 tab t ti h),BT⟩
theorem DR:(sO.map fun x=>Tryz.prog.funcs[x.1]?)=sO.map fun x=>some x.2.1:=BT
theorem sP:(sO.map fun x=>x.2.1.name== "runtime.NumGoroutine")=sO.map fun _=>false:=BT
theorem uD:(l:List (Nat×(Func×Ann)))->(t:Nat)->(x:Func×Ann)->xV l t=some x->(t,x)∈l
 |[],t,ti,h=>by cases h
 | (k,x):: r,t,ti,h=>by
  simp only[xV]at h;cases hk:Nat.beq k t with
  |true=>
   simp_all
  |false=>
   rw[hk]at h;exact adA _ (uD r t ti h)
def yp:∀f fn a,pg.funcs f=some (fn,a)->Tryz.prog.funcs[f]? = some fn/\(fn.name== "runtime.NumGoroutine")=false:=by
 intro f fn a h
 have:=uD sO f (fn,a) h
 grind [sD,DR,sP]
end Go.Proofs.YtkidiopjcgeifaaGreat
namespace Go.Proofs.YtkidiopjcgeifaaGreat
open Go Go.Av Go.Av.Ap Go.RowKit Go.Shelf
attribute [local go_sem] Oper.semAt_some
set_option maxRecDepth 100000
structure M9 where
 n:ByteArray
 a1:Value
 a2:Value
 a3:Value
 a4:Value
 a5:Value
 a6:Value
 a7:Value
 a8:Value
instance:Inhabited M9:=⟨⟨⟨#[]⟩,undef,undef,undef,undef,undef,undef,undef,undef⟩⟩
def xe(W:World)(b off:Nat)(zs:List M9):Prop:=∀j,j<zs.length->W.cell? ⟨b,off+j*9,none⟩=some (.string (zs[j]?.getD default).n)/\W.cell? ⟨b,off+j*9+1,none⟩=some (zs[j]?.getD default).a1/\W.cell? ⟨b,off+j*9+2,none⟩=some (zs[j]?.getD default).a2/\W.cell? ⟨b,off+j*9+3,none⟩=some (zs[j]?.getD default).a3/\W.cell? ⟨b,off+j*9+4,none⟩=some (zs[j]?.getD default).a4/\W.cell? ⟨b,off+j*9+5,none⟩=some (zs[j]?.getD default).a5/\W.cell? ⟨b,off+j*9+6,none⟩=some (zs[j]?.getD default).a6/\W.cell? ⟨b,off+j*9+7,none⟩=some (zs[j]?.getD default).a7/\W.cell? ⟨b,off+j*9+8,none⟩=some (zs[j]?.getD default).a8
variable {b:Nat}
def xe.keep{n₀ bo:Nat}{A B:World}(h:gy n₀ bo A B){off:Nat}(hb:b<n₀)(hn:b≠bo){zs:List M9}(c:xe A b off zs):xe B b off zs:=fun j hj=>by
 have:=c j hj
 simpa only[h.cell hb hn]using this
section
variable (S:az) (β:List bQ)
def xi(v:Value):Prop:=∃p l c,v= .slice p l c
def O1(y:aA×AV)(z:F12):Prop:=z.n.data.toList=y.1/\VR S β y.2 z.v/\(∃p,z.a1= .bool p)/\xi z.a2/\(∃k,z.a3= .int .i64 k)/\xi z.a4/\(∃k,z.a5= .int .i64 k)/\(∃k,z.a6= .int .i64 k)/\(∃k,z.a7= .int .i64 k)/\(∃x,z.a8= .string x)/\(∃x,z.a9= .string x)/\xi z.a10/\xi z.a11
def nj:List (aA×AV)->List F12->Prop
 |[],zs=>zs=[]
 |y:: l,zs=>∃z r,zs=z:: r/\O1 S β y z/\nj l r
def WW(w:World)(m:aA×List (aA×AV))(z:M9):Prop:=z.n.data.toList=m.1/\∃zs,nj S β m.2 zs/\nJ w.heap.size w.heap.size w z.a4 zs/\xi z.a4/\xi z.a1/\xi z.a2/\xi z.a3/\(∃p,z.a5= .bool p)/\xi z.a6/\xi z.a7/\xi z.a8
def nV(w:World):List (aA×List (aA×AV))->List M9->Prop
 |[],zs=>zs=[]
 |m:: l,zs=>∃z r,zs=z:: r/\WW S β w m z/\nV w l r
end
theorem nj.length{S:az}{β:List bQ}:{l:List (aA×AV)} ->{zs:List F12} ->nj S β l zs->zs.length=l.length
 |[],_,h=>by simp only[nj]at h;simp[h]
 |y:: l,zs,h=>by
  simp only[nj]at h;obtain⟨z,r,rfl,_,h⟩:=h;simp[nj.length h]
theorem nj.get{S:az}{β:List bQ}:{l:List (aA×AV)} ->{zs:List F12} ->nj S β l zs->∀ {i:Nat},i<l.length->∃y,l[i]? = some y/\O1 S β y (zs[i]?.getD default)
 |[],_,_,i,hi=>by simp at hi
 |y:: l,zs,h,i,hi=>by
  simp only[nj]at h;obtain⟨z,r,rfl,h1,h⟩:=h;cases i with
  |zero=>grind
  |succ i=>simpa using nj.get h (i:=i) (by simpa using hi)
theorem nV.length{S:az}{β:List bQ}{w:World}:{l:List (aA×List (aA×AV))} ->{zs:List M9} ->nV S β w l zs->zs.length=l.length
 |[],_,h=>by simp only[nV]at h;simp[h]
 |y:: l,zs,h=>by
  simp only[nV]at h;obtain⟨z,r,rfl,_,h⟩:=h;simp[nV.length h]
theorem nV.get{S:az}{β:List bQ}{w:World}:{l:List (aA×List (aA×AV))} ->{zs:List M9} ->nV S β w l zs->∀ {i:Nat},i<l.length->∃y,l[i]? = some y/\WW S β w y (zs[i]?.getD default)
 |[],_,_,i,hi=>by simp at hi
 |y:: l,zs,h,i,hi=>by
  simp only[nV]at h;obtain⟨z,r,rfl,h1,h⟩:=h;cases i with
  |zero=>grind
  |succ i=>simpa using nV.get h (i:=i) (by simpa using hi)
def iL(S:az)(β:List bQ)(W:World)(b:Nat)(es:List AV):Prop:=MapAt S β W b es
variable {es:List AV}{W:World}
def iL.kept{S:az}{β:List bQ}{W':World}(h:iL S β W b es)(hb:W'.heap[b]? = W.heap[b]?):iL S β W' b es:=by
 obtain⟨ents,clock,h1,h2,h3⟩:=h;exact⟨ents,clock,hb.trans h1,h2,h3⟩
def iL.lt{S:az}{β:List bQ}(h:iL S β W b es):b<W.heap.size:=by
 obtain⟨ents,clock,h1,_⟩:=h
 grind
def iL.not_cells{S:az}{β:List bQ}(h:iL S β W b es):∃o,W.heap[b]? = some o/\o.isCells=false:=by
 obtain⟨ents,clock,h1,_⟩:=h;exact⟨_,h1,rfl⟩
def iL.put{S:az}{β:List bQ}{es':List AV}{t kt et:Nat}{k v:AV}{vk vv:Value}(h:iL S β W b es)(hmt:jY T t=some (kt,et))(hck:GO T 20 kt k=true)(hp:uY T kt es k v=some es')(hk:VR S β k vk)(hv:VR S β v vv):
  ∃o,(Instr.mapUpdate t (.map (some b)) vk vv).run Tryz.prog W= .ok () (dy W b o)/\o.isCells=false/\iL S β (dy W b o) b es':=by
 obtain⟨ents,clock,h1,h2,h3⟩:=h;obtain⟨ents',clock',k1,k2,k3,_⟩:=N8 (P:=Tryz.prog) (w:=W) tok hmt hck hp hk hv h2 h3 h1;exact⟨.map ents' clock',k1,rfl,ents',clock',kz _ (acN.1 h1).1,k2,k3⟩
def iL.look{S:az}{β:List bQ}{t:Nat}{ok:Bool}{k r:AV}{vk:Value}(h:iL S β W b es)(hl:pF T t es k ok=some r)(hk:VR S β k vk):xn Tryz.prog W S β (Instr.lookup t (.map (some b)) vk ok) r:=by
 obtain⟨ents,clock,h1,h2,h3⟩:=h;exact look_ok tok hl hk h2 (.inr ⟨b,clock,rfl,h1⟩)
def tI{F:Fence}{n:Nat}{P:Program}{fn:Func}{tmps:Array Value}{R:Ending->World->Prop}(n₀:Nat)(I:World->Prop)(hI:∀W D,n₀<=D->I W->W.heap[D]? = some (.deferred (some []))->I (W.putObj D (.deferred none)))(hend:∀W,I W->LeavesInM F n P fn tmps R [] .returning W):∀(Ds:List Nat)(W:World),Ds.Nodup->(∀D∈Ds,n₀<=D/\W.heap[D]? = some (.deferred (some [])))->I W->
  LeavesInM F n P fn tmps R (Ds.map fun D=>{ target:=.collected D,args:=#[] }) .returning W
 |[],W,_,_,hW=>hend W hW
 |D:: Ds,W,hn,hD,hW=>by
  have hn':=ad1.1 hn;have hk:=(hD D AI).2;refine⟨AI,.inl ⟨D,_,rfl,run_takeDeferred hk,?_⟩⟩;refine tI n₀ I hI hend Ds _ hn'.2 (fun E hE=>⟨(hD E (by simp[hE])).1,?_⟩) (hI W D (hD D AI).1 hW hk)
  grind [World.putObj_heap_other]
def Nh{V:Type}{l:List (aA×List (aA×V))}{k:Nat}{m:aA×List (aA×V)}(h:l[k]? = some m)(seen:List aA)(out:List (aX×V)):
  nM (l.drop k) seen out=(if m.1∈seen then nM (l.drop (k+1)) seen out else nM (l.drop (k+1)) (seen++[m.1]) (se m.1 m.2 out)):=by
 obtain⟨hlt,rfl⟩:=acJ.1 h;rw[List.drop_eq_getElem_cons hlt];rfl
abbrev PF(S:az)(β:List bQ):={ p:(Nat×F12)×(aA×AV) // O1 S β p.2 p.1.2 }
def sI{S:az}{β:List bQ}(mn:aA)(pre:List (PF S β))(out:List (aX×AV)):List (aX×AV):=pre.foldl (fun o x=>kX o (mn,x.1.2.1) x.1.2.2) out
def VP{S:az}{β:List bQ}{l:List (aA×AV)}{zs:List F12}(h:nj S β l zs):∃yl:List (PF S β),yl.length=zs.length/\(∀k (hk:k<yl.length),(yl[k]).1.1=(zs.length-1-k,zs[zs.length-1-k]?.getD default))/\∀mn out,sI mn yl out=se mn l out:=by
 have hl:=h.length;have hget:∀j,j<l.length->O1 S β (l[l.length-1-j]?.getD default) (zs[l.length-1-j]?.getD default):=fun j hj=>by
  obtain⟨y,h1,h2⟩:=h.get (i:=l.length-1-j) WD
  grind
 let yl:List (PF S β):=(List.range l.length).pmap (fun j hj=>⟨((l.length-1-j,zs[l.length-1-j]?.getD default),l[l.length-1-j]?.getD default),hget j hj⟩) (fun j hj=>by simpa using hj);have hyl:yl.length=l.length:=by simp[yl]
 have hk:∀k (hk:k<yl.length),(yl[k]).1=((l.length-1-k,zs[l.length-1-k]?.getD default),l[l.length-1-k]?.getD default):=fun k hk=>by simp[yl]
 refine⟨yl,by rw[hyl,hl],fun k h=>by rw[hk k h,hl],fun mn out=>?_⟩;have hrev:yl.map (fun x=>x.1.2)=l.reverse:=by
  apply aee
  ·simp[hyl]
  ·grind
 unfold sI se;rw[<- List.foldl_reverse,<- hrev,List.foldl_map]
structure IdxI (S:az) (β:List bQ) (w:World) (l:List (aA×List (aA×AV))) (B3 bs bo k:Nat) (Ds:List Nat) (W:World):Prop where
 below:Below w.heap.size w W
 b3:W.heap[B3]? = some (.cells #[.map (some bo)] 118 (0,0))
 maps:∃seen out,iL S β W bs (seen.map wx)/\iL S β W bo (out.map (gB id))/\nM (l.drop k) seen out=nM l [] []
 marks:Ds.Nodup/\∀D∈Ds,w.heap.size<=D/\W.heap[D]? = some (.deferred (some []))
set_option maxHeartbeats 8000000 in
def Va(F:Fence)(n:Nat)(f1:F.fn 48)(f2:F.fn 107)(f3:F.fn 171)(hro:F.round=none)(hn:5<=n)(S:az)(β:List bQ)(a:Option Addr)(len cap:Nat)(zs:List M9)(l:List (aA×List (aA×AV)))(w:World)(hR:nV S β w l zs)(hlen:len=zs.length)(hmax:l.length<=1000000/\∀m∈l,m.2.length<=1000000)(hcells:zs=[]\/∃b off,a=some ⟨b,off,none⟩/\b<w.heap.size/\xe w b off zs):
  CallsIn F n Tryz.prog 48 #[.slice a len cap] w fun e W'=>∃bo,e= .returned (.map (some bo))/\w.heap.size<=bo/\iL S β W' bo ((nM l [] []).map (gB id))/\Below w.heap.size w W':=by
 have h1:1<=n:=WD
 have hll:=hR.length;obtain rfl:len=l.length:=WD
 clear hlen;have hmk:∀t W,(Instr.makeMap t none).run Tryz.prog W= .ok (.map (some W.heap.size)) (W.alloc (.map #[] 0)):=fun t W=>by simp[Instr.makeMap]
 refine callsIn_of_wp_marks Tryz.func48 rfl f1 ?_ hro;simp only[Tryz.ntmps48,adn,acR,acS,Nat.reduceAdd,Nat.reduceSub,adq,adr,adC,adw,acT,ac1]
 gi_wp2
 have e3:=World.alloc_heap_new (w.alloc (.map #[] 0)) (.cells #[.map (some w.heap.size)] 118);have e4:=World.alloc_heap_new ((w.alloc (.map #[] 0)).alloc (.cells #[.map (some w.heap.size)] 118)) (.map #[] 0);have e2:=World.alloc_heap_new w (.map #[] 0);simp only[World.size_alloc]at e3 e4;have hB0:Below w.heap.size w (((w.alloc (.map #[] 0)).alloc (.cells #[.map (some w.heap.size)] 118)).alloc (.map #[] 0)):=
  (((Below.refl _ w).alloc (acC _) _).alloc AI _).alloc Bk _
 have hb3:(((w.alloc (.map #[] 0)).alloc (.cells #[.map (some w.heap.size)] 118)).alloc (.map #[] 0)).heap[w.heap.size+1]? = some (.cells #[.map (some w.heap.size)] 118 (0,0)):=(alloc_old _ _ AI).trans e3;have hm2:iL S β (((w.alloc (.map #[] 0)).alloc (.cells #[.map (some w.heap.size)] 118)).alloc (.map #[] 0)) w.heap.size []:=
  ⟨#[],0,(alloc_old _ _ Bk).trans ((alloc_old _ _ AI).trans e2),⟨rfl,fun i e x he=>by simp at he⟩,fun x hx=>by simp at hx,AI⟩
 have hm4:iL S β (((w.alloc (.map #[] 0)).alloc (.cells #[.map (some w.heap.size)] 118)).alloc (.map #[] 0)) (w.heap.size+1+1) []:=
  ⟨#[],0,e4,⟨rfl,fun i e x he=>by simp at he⟩,fun x hx=>by simp at hx,AI⟩
 generalize (((w.alloc (.map #[] 0)).alloc (.cells #[.map (some w.heap.size)] 118)).alloc (.map #[] 0))=W0 at hB0 hb3 hm2 hm4 |-;clear e2 e3 e4;refine wpIn_loop (fun a' W=>∃(k:Nat)(Ds:List Nat)(j1 j5 j6 j7 j8 j14 j15 j16 j17 j18 j19 j20 j21 j22 j23 j24 j25 j26 j27 j28 j29 j30 j31 j32 j33 j34 j35 j36 j37:Value),IdxI S β w l (w.heap.size+1) (w.heap.size+1+1) w.heap.size k Ds W/\k<=l.length/\a'= { tmps:=#[.slice a l.length cap,j1,.map none,.pointer (some ⟨w.heap.size+1,0,none⟩),.map (some (w.heap.size+1+1)),j5,j6,j7,j8,.map (some w.heap.size),.map (some (w.heap.size+1+1)),.slice a l.length cap,.int .i64 (l.length:Int),.int .i64 (k:Int),j14,j15,j16,j17,j18,j19,j20,j21,j22,j23,j24,j25,j26,j27,j28,j29,j30,j31,j32,j33,j34,j35,j36,j37],defers:=Ds.map fun D=>{ target:=.collected D,args:=#[] } })
  (fun a' _=>((l.length:Int)-intOf (a'.tmps.getD 13 undef)).toNat) ⟨0,[],undef,undef,undef,undef,undef,undef,undef,undef,undef,undef,undef,undef,undef,undef,undef,undef,undef,undef,undef,undef,undef,undef,undef,undef,undef,undef,undef,undef,undef,⟨hB0,hb3,⟨[],[],hm4,hm2,AI⟩,AI,AI⟩,acU _,rfl⟩ ?_
 rintro a1 W ⟨k,Ds,j1,j5,j6,j7,j8,j14,j15,j16,j17,j18,j19,j20,j21,j22,j23,j24,j25,j26,j27,j28,j29,j30,j31,j32,j33,j34,j35,j36,j37,hI,hk,rfl⟩;by_cases hlt:k<l.length
 ·obtain⟨m,hm,hMn,fz,hfz,hfuns,hsl,hs1',hs2',hs3',hs5',hs6',hs7',hs8'⟩:=hR.get hlt;have hkz:k<zs.length:=WD
  obtain⟨b,off,rfl,hb,hcs⟩:=hcells.resolve_left qr;have hkl:k<l.length:=WD
  obtain⟨seen,out,hs,ho,hidx⟩:=hI.maps;rw[Nh hm]at hidx;have hK0:gy w.heap.size w.heap.size w W:=ack hI.below;obtain⟨c0,c1,c2,c3,c4,c5,c6,c7,c8⟩:=(hcs.keep hK0 hb WD) k hkz;generalize hz:zs[k]?.getD default=z at hMn hfuns hsl hs1' hs2' hs3' hs5' hs6' hs7' hs8' c0 c1 c2 c3 c4 c5 c6 c7 c8;obtain⟨z0,z1,z2,z3,z4,z5,z6,z7,z8⟩:=z;simp only at hMn hfuns hsl hs1' hs2' hs3' hs5' hs6' hs7' hs8' c0 c1 c2 c3 c4 c5 c6 c7 c8;obtain⟨sp,sl,sc,rfl⟩:=hsl;obtain⟨p1,l1,q1,rfl⟩:=hs1';obtain⟨p2,l2,q2,rfl⟩:=hs2';obtain⟨p3,l3,q3,rfl⟩:=hs3';obtain⟨p5,rfl⟩:=hs5';obtain⟨p6,l6,q6,rfl⟩:=hs6';obtain⟨p7,l7,q7,rfl⟩:=hs7';obtain⟨p8,l8,q8,rfl⟩:=hs8';have hn1:W.heap.size<(W.alloc (.cells #[.string z0,.slice p1 l1 q1,.slice p2 l2 q2,.slice p3 l3 q3,.slice sp sl sc,.bool p5,.slice p6 l6 q6,.slice p7 l7 q7,.slice p8 l8 q8] 29)).heap.size:=AI
  have hB1:Below w.heap.size w (W.alloc (.cells #[.string z0,.slice p1 l1 q1,.slice p2 l2 q2,.slice p3 l3 q3,.slice sp sl sc,.bool p5,.slice p6 l6 q6,.slice p7 l7 q7,.slice p8 l8 q8] 29)):=hI.below.alloc hI.below.size _;have hr1:(W.alloc (.cells #[.string z0,.slice p1 l1 q1,.slice p2 l2 q2,.slice p3 l3 q3,.slice sp sl sc,.bool p5,.slice p6 l6 q6,.slice p7 l7 q7,.slice p8 l8 q8] 29)).heap[W.heap.size]? = some (.cells #[.string z0,.slice p1 l1 q1,.slice p2 l2 q2,.slice p3 l3 q3,.slice sp sl sc,.bool p5,.slice p6 l6 q6,.slice p7 l7 q7,.slice p8 l8 q8] 29 (0,0)):=World.alloc_heap_new W _;have hb31:(W.alloc (.cells #[.string z0,.slice p1 l1 q1,.slice p2 l2 q2,.slice p3 l3 q3,.slice sp sl sc,.bool p5,.slice p6 l6 q6,.slice p7 l7 q7,.slice p8 l8 q8] 29)).heap[w.heap.size+1]? = some (.cells #[.map (some w.heap.size)] 118 (0,0)):=(alloc_old W _ (acN.1 hI.b3).1).trans hI.b3;have hs1:=hs.kept (alloc_old W (.cells #[.string z0,.slice p1 l1 q1,.slice p2 l2 q2,.slice p3 l3 q3,.slice sp sl sc,.bool p5,.slice p6 l6 q6,.slice p7 l7 q7,.slice p8 l8 q8] 29) hs.lt);have ho1:=ho.kept (alloc_old W (.cells #[.string z0,.slice p1 l1 q1,.slice p2 l2 q2,.slice p3 l3 q3,.slice sp sl sc,.bool p5,.slice p6 l6 q6,.slice p7 l7 q7,.slice p8 l8 q8] 29) ho.lt);have hk1:∀D∈Ds,w.heap.size<=D/\(W.alloc (.cells #[.string z0,.slice p1 l1 q1,.slice p2 l2 q2,.slice p3 l3 q3,.slice sp sl sc,.bool p5,.slice p6 l6 q6,.slice p7 l7 q7,.slice p8 l8 q8] 29)).heap[D]? = some (.deferred (some [])):=fun D hD=>⟨(hI.marks.2 D hD).1,(alloc_old W _ (acN.1 (hI.marks.2 D hD).2).1).trans (hI.marks.2 D hD).2⟩;have hname:VR S β (.str m.1) (.string z0):=by simp only[VR];exact⟨z0,rfl,hMn⟩
  obtain⟨v,hlook,hvr⟩:=hs1.look (t:=138) (K4 seen m.1) hname;simp only[VR]at hvr;subst hvr;by_cases hse:m.1∈seen
  ·rw[acL hse]at hidx;simp only[hse,acX]at hlook
   gi_wp2_with (first
    |(gi_at_lookup;refine lJ rfl _ _ 138 false rfl hlook ?_)
    |gi_in)
   refine⟨⟨k+1,Ds,_,_,_,_,_,_,_,_,_,_,_,_,_,_,_,_,_,_,_,_,_,_,_,_,_,_,_,_,_,⟨hB1,hb31,⟨seen,out,hs1,ho1,hidx⟩,hI.marks.1,hk1⟩,WD,rfl⟩,?_⟩;simp[intOf];omega
  ·rw[acE hse]at hidx;simp only[hse,adg]at hlook;obtain⟨os,hupd,hos,hs2⟩:=hs1.put (t:=138) Y8 rfl (Oa seen m.1 hse) hname (vv:=.bool true) (by simp only[VR]);have hx1:W.heap.size≠w.heap.size+1+1:=fun e=>by have:=hs.lt;omega
   obtain⟨W2,hW2⟩:∃W2,dy (W.alloc (.cells #[.string z0,.slice p1 l1 q1,.slice p2 l2 q2,.slice p3 l3 q3,.slice sp sl sc,.bool p5,.slice p6 l6 q6,.slice p7 l7 q7,.slice p8 l8 q8] 29)) (w.heap.size+1+1) os=W2:=⟨_,rfl⟩;have hr2:W2.heap[W.heap.size]? = some (.cells #[.string z0,.slice p1 l1 q1,.slice p2 l2 q2,.slice p3 l3 q3,.slice sp sl sc,.bool p5,.slice p6 l6 q6,.slice p7 l7 q7,.slice p8 l8 q8] 29 (0,0)):=by rw[<- hW2,cp _ _ _ hx1];exact hr1
   have hb32:W2.heap[w.heap.size+1]? = some (.cells #[.map (some w.heap.size)] 118 (0,0)):=by rw[<- hW2,cp _ _ _ WD];exact hb31
   have ho2:iL S β W2 w.heap.size (out.map (gB id)):=ho1.kept (by rw[<- hW2,cp _ _ _ WD]);have hB2:Below w.heap.size w W2:=by rw[<- hW2];exact hB1.grown (lW _ _ _) hB1.size (fun j e=>by cases e;omega)
   have hk2:∀D∈Ds,w.heap.size<=D/\W2.heap[D]? = some (.deferred (some [])):=fun D hD=>⟨(hk1 D hD).1,by
    rw[<- hW2,cp _ _ _ (fun e=>by obtain⟨en,cl,k1,_⟩:=hs1;rw[<- e,(hk1 D hD).2]at k1;cases k1)];exact (hk1 D hD).2⟩
   rw[hW2]at hupd hs2;have hsz2:W2.heap.size=W.heap.size+1:=by rw[<- hW2];simp[dy]
   clear hW2;have hcm0:W2.cell? ⟨W.heap.size,0,none⟩=some (.string z0):=by simp[World.cell?,hr2]
   have hcm4:W2.cell? ⟨W.heap.size,4,none⟩=some (.slice sp sl sc):=by simp[World.cell?,hr2]
   gi_wp2_with (first
    |(gi_at_lookup;refine lJ rfl _ _ 138 false rfl hlook ?_)
    |(gi_at_mapUpdate;refine lK rfl _ _ _ 138 rfl hupd ?_)
    |(gi_at_call 107;refine (Ph F (n-1) f2 hro _ _ _ _).mono ?_;rintro e w' ⟨rfl,rfl⟩)
    |gi_in)
   obtain⟨yl,hyl,hye,hyo⟩:=VP hfz;have hD:∀D∈Ds,D<W.heap.size:=fun D hD=>(acN.1 (hI.marks.2 D hD).2).1;have hs3:=hs2.kept (alloc_old W2 (.cells #[.slice sp sl sc] 25) hs2.lt);have ho3:=ho2.kept (alloc_old W2 (.cells #[.slice sp sl sc] 25) ho2.lt);have hB3:Below w.heap.size w (W2.alloc (.cells #[.slice sp sl sc] 25)):=hB2.alloc hB2.size _;have hr3:(W2.alloc (.cells #[.slice sp sl sc] 25)).heap[W.heap.size]? = some (.cells #[.string z0,.slice p1 l1 q1,.slice p2 l2 q2,.slice p3 l3 q3,.slice sp sl sc,.bool p5,.slice p6 l6 q6,.slice p7 l7 q7,.slice p8 l8 q8] 29 (0,0)):=(alloc_old W2 _ WD).trans hr2;have hb33:(W2.alloc (.cells #[.slice sp sl sc] 25)).heap[w.heap.size+1]? = some (.cells #[.map (some w.heap.size)] 118 (0,0)):=(alloc_old W2 _ (acN.1 hb32).1).trans hb32;have hbx3:(W2.alloc (.cells #[.slice sp sl sc] 25)).cell? ⟨W.heap.size+1,0,none⟩=some (.slice sp sl sc):=by
    have:=World.alloc_heap_new W2 (.cells #[.slice sp sl sc] 25)
    rw[hsz2]at this;simp[World.cell?,this]
   have hk3:∀D∈Ds,w.heap.size<=D/\(W2.alloc (.cells #[.slice sp sl sc] 25)).heap[D]? = some (.deferred (some [])):=fun D hd=>⟨(hk2 D hd).1,(alloc_old W2 _ (by have:=hD D hd;omega)).trans (hk2 D hd).2⟩;have hsz3:(W2.alloc (.cells #[.slice sp sl sc] 25)).heap.size=W.heap.size+2:=by simp[hsz2]
   have hwW:=hI.below.size;have hbsW:=hs.lt;generalize (W2.alloc (.cells #[.slice sp sl sc] 25))=W3 at hs3 ho3 hB3 hr3 hb33 hbx3 hk3 hsz3 |-;clear hs2 ho2 hB2 hr2 hb32 hk2 hsz2 hupd hcm0 hcm4 hlook hs1 ho1 hB1 hr1 hb31 hk1 hn1 W2;have hfl:=hfz.length;have hfm:=hmax.2 m (adl hm);have hF3:nJ W3.heap.size w.heap.size W3 (.slice sp sl sc) fz:=(hfuns.keep (ack hB3)).mono WD;have keepO:∀(j:Nat)(X Y:World)(row:Option Nat)(o:Obj),X.heap[j]? = some o->j<W3.heap.size->X.grownBy Y row->(∀r,row=some r->W3.heap.size<=r/\∃o:Obj,X.heap[r]? = some o/\o.isCells=false)->Y.heap[j]? = X.heap[j]?:=fun j X Y row o hj hlt hg hr=>
    hg.block j (acN.1 hj).1 (fun e=>by have:=(hr j e.symm).1;omega)
   refine wpIn_rangeFunc_ownH hro h1 (gf:=171) (lb:=#[.pointer (some ⟨W.heap.size+1,0,none⟩)]) rfl f3 (enters_of Tryz.func171 BT rfl)
    (GZ F (n-1) f3 hro WD (W.heap.size+1) w.heap.size (.slice sp sl sc) fz WD (fun x:PF S β=>#[Value.int .i64 (x.1.1.1:Int),x.1.1.2.v]) yl hyl (fun k hk=>by rw[hye k hk]) W3 WD WD hbx3 hF3)
    P6 (P5 (acC _)) (Below.refl _ _) (fun _=>rfl)
    (fun pre W'=>W3.heap.size<=W'.heap.size/\Below w.heap.size w W'/\W'.heap[w.heap.size+1]? = some (.cells #[.map (some w.heap.size)] 118 (0,0))/\W'.heap[W.heap.size]? = some (.cells #[.string z0,.slice p1 l1 q1,.slice p2 l2 q2,.slice p3 l3 q3,.slice sp sl sc,.bool p5,.slice p6 l6 q6,.slice p7 l7 q7,.slice p8 l8 q8] 29 (0,0))/\
     iL S β W' (w.heap.size+1+1) ((seen++[m.1]).map wx)/\iL S β W' w.heap.size ((sI m.1 pre out).map (gB id))/\∀D∈Ds,w.heap.size<=D/\W'.heap[D]? = some (.deferred (some [])))
    (fun _ _ _=>False) ?hI (fun c s A B row h=>h.elim) ⟨acC _,hB3,hb33,hr3,hs3,ho3,hk3⟩
    (fun y a' W'=>∃Bx,W.heap.size+2<=Bx/\W'.heap[Bx]? = some (.cells y.1.1.2.arr 56 (0,0))/\a'= { tmps:=#[.slice (some ⟨b,off,none⟩) l.length cap,j1,.map none,.pointer (some ⟨w.heap.size+1,0,none⟩),.map (some (w.heap.size+1+1)),j5,.pointer (some ⟨W.heap.size,0,none⟩),j7,.pointer (some ⟨Bx,0,none⟩),.map (some w.heap.size),.map (some (w.heap.size+1+1)),.slice (some ⟨b,off,none⟩) l.length cap,.int .i64 (l.length:Int),.int .i64 (k:Int),.bool true,.pointer (some ⟨b,off+k*9,none⟩),.agg #[.string z0,.slice p1 l1 q1,.slice p2 l2 q2,.slice p3 l3 q3,.slice sp sl sc,.bool p5,.slice p6 l6 q6,.slice p7 l7 q7,.slice p8 l8 q8],.map (some (w.heap.size+1+1)),.pointer (some ⟨W.heap.size,0,none⟩),.string z0,.bool false,.map (some (w.heap.size+1+1)),.pointer (some ⟨W.heap.size,0,none⟩),.string z0,.pointer (some ⟨W.heap.size,4,none⟩),.slice sp sl sc,.func (.func 171) #[] #[.pointer (some ⟨W.heap.size+1,0,none⟩)],.int .i64 (y.1.1.1:Int),y.1.1.2.v,j29,j30,j31,j32,j33,j34,j35,j36,j37],defers:=[] })
    ?hAx ?assign ?body ?done ?stop
   case hI=>
    rintro s X Y row ⟨i0,i1,i2,i3,i4,i5,i6⟩ hg hr;refine⟨adi i0 hg.size,i1.grown hg i1.size (fun k e=>by have:=(hr k e).1;omega),(keepO _ X Y row _ i2 WD hg hr).trans i2,(keepO _ X Y row _ i3 WD hg hr).trans i3,?_,?_,fun D hd=>⟨(i6 D hd).1,(keepO _ X Y row _ (i6 D hd).2 (by have:=hD D hd;omega) hg hr).trans (i6 D hd).2⟩⟩
    ·obtain⟨o,ho,_⟩:=i4.not_cells;exact i4.kept (keepO _ X Y row _ ho WD hg hr)
    ·obtain⟨o,ho,_⟩:=i5.not_cells;exact i5.kept (keepO _ X Y row _ ho WD hg hr)
   case hAx=>
    rintro y a' _ X Y row ⟨Bx,x1,x2,x3⟩ hg hr;exact⟨Bx,x1,(hg.block Bx (acN.1 x2).1 (fun e=>by obtain⟨_,o,ho,hc⟩:=hr Bx e.symm;rw[x2]at ho;cases ho;cases hc)).trans x2,x3⟩
   case assign=>
    rintro lo pre y W' K ⟨i0,i1,i2,i3,i4,i5,i6⟩ hK;obtain⟨⟨⟨yi,⟨y0,y1,y2,y3,y4,y5,y6,y7,y8,y9,y10,y11⟩⟩,yn,ya⟩,hy1,hy2,g1,g2,g3,g4,g5,g6,g7,g8,g9,g10,g11⟩:=y;simp only at hy1 hy2 g1 g2 g3 g4 g5 g6 g7 g8 g9 g10 g11;obtain⟨yv1,rfl⟩:=g1;obtain⟨yp2,yl2,yc2,rfl⟩:=g2;obtain⟨yv3,rfl⟩:=g3;obtain⟨yp4,yl4,yc4,rfl⟩:=g4;obtain⟨yv5,rfl⟩:=g5;obtain⟨yv6,rfl⟩:=g6;obtain⟨yv7,rfl⟩:=g7;obtain⟨yv8,rfl⟩:=g8;obtain⟨yv9,rfl⟩:=g9;obtain⟨yp10,yl10,yc10,rfl⟩:=g10;obtain⟨yp11,yl11,yc11,rfl⟩:=g11;simp only[F12.v,F12.arr]at hK |-
    gi_wp2
    exact hK _ _ ((KeepsOthers.alloc _ _).from _) (fun k hk _=>alloc_old W' _ WD) ⟨by simp;omega,i1.alloc i1.size _,(alloc_old W' _ (acN.1 i2).1).trans i2,(alloc_old W' _ (acN.1 i3).1).trans i3,i4.kept (alloc_old W' _ i4.lt),i5.kept (alloc_old W' _ i5.lt),fun D hd=>⟨(i6 D hd).1,(alloc_old W' _ (acN.1 (i6 D hd).2).1).trans (i6 D hd).2⟩⟩ ⟨W'.heap.size,WD,World.alloc_heap_new W' _,rfl⟩
   case body=>
    rintro lo pre y a' W' hl ⟨r,hr⟩ ⟨i0,i1,i2,i3,i4,i5,i6⟩ ⟨Bx,hbx,rx,rfl⟩ hlen;obtain⟨⟨⟨yi,⟨y0,y1,y2,y3,y4,y5,y6,y7,y8,y9,y10,y11⟩⟩,yn,ya⟩,hy1,hy2,g1,g2,g3,g4,g5,g6,g7,g8,g9,g10,g11⟩:=y;simp only at hy1 hy2 g1 g2 g3 g4 g5 g6 g7 g8 g9 g10 g11 rx;obtain⟨yv1,rfl⟩:=g1;obtain⟨yp2,yl2,yc2,rfl⟩:=g2;obtain⟨yv3,rfl⟩:=g3;obtain⟨yp4,yl4,yc4,rfl⟩:=g4;obtain⟨yv5,rfl⟩:=g5;obtain⟨yv6,rfl⟩:=g6;obtain⟨yv7,rfl⟩:=g7;obtain⟨yv8,rfl⟩:=g8;obtain⟨yv9,rfl⟩:=g9;obtain⟨yp10,yl10,yc10,rfl⟩:=g10;obtain⟨yp11,yl11,yc11,rfl⟩:=g11;simp only[F12.arr]at rx;simp only[F12.v]at hy2 |-;have hc3:W'.cell? ⟨w.heap.size+1,0,none⟩=some (.map (some w.heap.size)):=by simp[World.cell?,i2]
    have hcm0:W'.cell? ⟨W.heap.size,0,none⟩=some (.string z0):=by simp[World.cell?,i3]
    have hcy0:W'.cell? ⟨Bx,0,none⟩=some (.string y0):=by simp[World.cell?,rx]
    have hcy1:W'.cell? ⟨Bx,1,none⟩=some (.bool yv1):=by simp[World.cell?,rx]
    have hcy2:W'.cell? ⟨Bx,2,none⟩=some (.slice yp2 yl2 yc2):=by simp[World.cell?,rx]
    have hcy3:W'.cell? ⟨Bx,3,none⟩=some (.int .i64 yv3):=by simp[World.cell?,rx]
    have hcy4:W'.cell? ⟨Bx,4,none⟩=some (.slice yp4 yl4 yc4):=by simp[World.cell?,rx]
    have hcy5:W'.cell? ⟨Bx,5,none⟩=some (.int .i64 yv5):=by simp[World.cell?,rx]
    have hcy6:W'.cell? ⟨Bx,6,none⟩=some (.int .i64 yv6):=by simp[World.cell?,rx]
    have hcy7:W'.cell? ⟨Bx,7,none⟩=some (.int .i64 yv7):=by simp[World.cell?,rx]
    have hcy8:W'.cell? ⟨Bx,8,none⟩=some (.string yv8):=by simp[World.cell?,rx]
    have hcy9:W'.cell? ⟨Bx,9,none⟩=some (.string yv9):=by simp[World.cell?,rx]
    have hcy10:W'.cell? ⟨Bx,10,none⟩=some (.slice yp10 yl10 yc10):=by simp[World.cell?,rx]
    have hcy11:W'.cell? ⟨Bx,11,none⟩=some (.slice yp11 yl11 yc11):=by simp[World.cell?,rx]
    have hkr:VR S β (dj (m.1,yn)) (.agg #[.string z0,.string y0]):=by
     simp only[dj,VR,be];exact⟨_,rfl,_,_,rfl,⟨z0,rfl,hMn⟩,_,_,rfl,⟨y0,rfl,hy1⟩,rfl⟩
    obtain⟨om,hupd,hom,ho'⟩:=i5.put (t:=118) R5 rfl (JH id (sI m.1 pre out) (m.1,yn) ya) hkr hy2
    gi_wp2_with (first
     |(gi_at_mapUpdate;refine lK rfl _ _ _ 118 rfl hupd ?_)
     |gi_in)
    refine⟨⟨by simp[dy],fun k o hk hko _=>(cp _ _ _ WD).trans hko⟩,fun k hk hn=>cp _ _ _ hn,by simp[dy];omega,i1.grown (lW _ _ _) i1.size (fun j e=>by cases e;omega),(cp _ _ _ WD).trans i2,(cp _ _ _ WD).trans i3,i4.kept (cp _ _ _ WD),?_,fun D hd=>⟨(i6 D hd).1,(cp _ _ _ (fun e=>?_)).trans (i6 D hd).2⟩⟩
    ·have hout:∀(x:PF S β),sI m.1 (pre++[x]) out=kX (sI m.1 pre out) (m.1,x.1.2.1) x.1.2.2:=fun x=>by simp[sI]
     rw[hout];exact ho'
    ·obtain⟨o,hoo,_⟩:=i5.not_cells;obtain⟨en,cl,k1,_⟩:=i5;rw[<- e,(i6 D hd).2]at k1;cases k1
   case done=>
    rintro D ys W' hDl rfl ⟨i0,i1,i2,i3,i4,i5,i6⟩ hK
    gi_wp2
    rw[hyo]at i5;refine⟨⟨k+1,D:: Ds,_,_,_,_,_,_,_,_,_,_,_,_,_,_,_,_,_,_,_,_,_,_,_,_,_,_,_,_,_,⟨i1,i2,⟨seen++[m.1],_,i4,i5,hidx⟩,ad1.2 ⟨fun hd=>by have:=hD D hd;omega,hI.marks.1⟩,fun E hE=>?_⟩,WD,rfl⟩,?_⟩
    ·rcases ac2.1 hE with rfl|hE
     ·exact⟨WD,hK⟩
     ·exact i6 E hE
    ·simp[intOf];omega
   case stop=>
    rintro D c pre W' hD _ h hK;exact h.elim
 ·obtain rfl:k=l.length:=WD
  have hc3:W.cell? ⟨w.heap.size+1,0,none⟩=some (.map (some w.heap.size)):=by simp[World.cell?,hI.b3]
  gi_wp2
  obtain⟨seen,out,hs,ho,hidx⟩:=hI.maps;have hout:out=nM l [] []:=by simpa [nM]using hidx
  subst hout;refine tI w.heap.size (fun W'=>Below w.heap.size w W'/\iL S β W' w.heap.size ((nM l [] []).map (gB id))) (fun W' D hD ⟨i1,i2⟩ hk=>⟨i1.trans (belowK_b (w:=w) (acC _) W' D _ _ hD hk rfl rfl),i2.kept ?_⟩) (fun W' ⟨i1,i2⟩=>?_) Ds W hI.marks.1 hI.marks.2 ⟨hI.below,ho⟩
  ·refine World.putObj_heap_other (fun e=>?_);obtain⟨ents,clock,k1,_⟩:=i2;have:W'.heap[D]? = some (.map ents clock):=by first|(rw[e];exact k1)|(rw[<- e];exact k1)
   rw[this]at hk;cases hk
  ·exact⟨_,results_tmp rfl _ _ _,w.heap.size,rfl,acC _,i2,i1⟩
end Go.Proofs.YtkidiopjcgeifaaGreat
namespace Go.Proofs.YtkidiopjcgeifaaGreat
open Go Go.Av Go.RowKit Go.Shelf
attribute [local go_sem] Oper.semAt_some
abbrev iM:=ByteArray×ByteArray
def mZ(x:iM):Value:=.agg #[.string x.1,.string x.2]
set_option maxRecDepth 100000 in
set_option maxHeartbeats 2000000 in
def HP(F:Fence)(n:Nat)(h10:F.fn 105)(hro:F.round=none)(hn:1<=n)(l Bm Bo b:Nat)(es:Array MapEntry)(clock:Nat)(ks:List iM)(hks:es.toList.map (·.key)=ks.map mZ)(hst:my es.toList clock)(J Jx:List iM->World->Prop)
  (hY:∀pre x W,J pre W->pre.length<ks.length->YieldAt F (n-1) Tryz.prog l #[mZ x] W fun e W'=>
   (e= .returned (.bool true)/\J (pre++[x]) W'/\KeepsWalks W W')\/(e= .returned (.bool false)/\Jx (pre++[x]) W'))
  (W:World) (hJ:AbidesFrom W.heap.size J) (hm:W.cell? ⟨Bm,Bo,none⟩=some (.map (some b))) (hmap:W.heap[b]? = some (.map es clock)) (h0:J [] W):
  CallsIn F n Tryz.prog 105 #[.func (.yield l) #[] #[],.pointer (some ⟨Bm,Bo,none⟩)] W fun e W'=>(∃v,e= .returned v)/\
   ((∃ss:List iM,ss.Perm ks/\J ss W')\/(∃pre:List iM,True/\Jx pre W')):=by
 have hbl:b<W.heap.size:=(acN.1 hmap).1;have hlen:es.toList.length=ks.length:=by have:=acY List.length hks;simpa using this
 have hrg:(Instr.range 116 (.map (some b))).run Tryz.prog W= .ok (.pointer (some ⟨W.heap.size,0,none⟩)) (W.alloc (.mapIter (some b) clock #[] clock)):=by
  simp[Instr.range,run_underlying Tryz.underlying116,jS hmap AI]
 refine callsIn_of_wp Tryz.func105 rfl h10 ?_ hro;simp only[Tryz.ntmps105,adn,acR,acS,Nat.reduceAdd,Nat.reduceSub,adq,adr,adC,adw,acT,ac1]
 gi_wp2_with (first
  |(gi_at_range;refine gx rfl _ 116 rfl hrg ?_)
  |gi_in)
 have hg0:W.grownBy (W.alloc (.mapIter (some b) clock #[] clock)) none:=World.grownBy_alloc W _ none;have hit0:(W.alloc (.mapIter (some b) clock #[] clock)).heap[W.heap.size]? = some (.mapIter (some b) clock #[] clock):=World.alloc_heap_new W _;have hmp0:(W.alloc (.mapIter (some b) clock #[] clock)).heap[b]? = some (.map es clock):=(alloc_old W _ hbl).trans hmap;have hJ0:=hJ [] W _ none h0 hg0 (fun r e=>by cases e);generalize (W.alloc (.mapIter (some b) clock #[] clock))=W0 at hit0 hmp0 hJ0 |-
 go_frame
 gi_loopw [3] (fun _ wr=>∃(seen:Array Nat)(last:Nat)(ss:List iM),wr.heap[W.heap.size]? = some (.mapIter (some b) clock seen last)/\clock<=last/\wr.heap[b]? = some (.map es clock)/\(ss++(dF es.toList seen).map (fun i=>ks[i]!)).Perm ks/\J ss wr)
  (fun _ wr=>wZ wr W.heap.size b)
 case atStart=>
  refine⟨#[],clock,[],hit0,acC _,hmp0,?_,hJ0⟩;rw[wg,hlen,acT];have:(List.range ks.length).map (fun i=>ks[i]!)=ks:=by
   apply aee
   ·simp
   ·intro i h1 h2;simp[acH h2]
  rw[this]
 case round=>
  obtain⟨seen,last,ss,hit,hcl,hmp,hpm,hJs⟩:=hrel;have hls:ss.length+(dF es.toList seen).length=ks.length:=by have:=hpm.length_eq;simpa using this
  have hiW:W.heap.size<wr.heap.size:=(acN.1 hit).1
  gi_wp2_with (first
   |(gi_at_next;refine nI rfl _ rfl rfl hit hmp hst.1 hcl ?_ ?_)
   |gi_in)
  ·intro i1
   gi_wp2
   go_end0
   rw[i1]at hpm;exact⟨⟨_,rfl⟩,.inl ⟨ss,by simpa using hpm,hJs⟩⟩
  ·intro i u w1 i1 i2 i3;have i2:es.toList[i]? = some u:=by simpa using i2
   have hil:i<ks.length:=by rw[<- hlen];exact jv i2
   have hue:u.key=mZ ks[i]!:=by
    have:(es.toList.map (·.key))[i]? = (ks.map mZ)[i]?:=by rw[hks]
    rw[adK,adK,i2,acH hil]at this;simp only[adv,acz]at this;rw[this,acF ks i hil]
   have hperm:=vQ (rG es.toList seen) i1;have hpush:=oZ hst.2 (seen:=seen) i2;have hg1:wr.grownBy w1 none:=by rcases i3 with rfl|rfl;exact⟨rfl,rfl,rfl,acC _,fun _ _ _=>rfl⟩;exact yv _
   obtain⟨w2,hw2⟩:∃w2,dy w1 W.heap.size (.mapIter (some b) clock (seen.push u.born) clock)=w2:=⟨_,rfl⟩;have hw1:w1.heap=wr.heap:=by rcases i3 with rfl|rfl<;>rfl
   have hit2:w2.heap[W.heap.size]? = some (.mapIter (some b) clock (seen.push u.born) clock):=by rw[<- hw2];exact kz _ (by rw[hw1];exact hiW)
   have hmp2:w2.heap[b]? = some (.map es clock):=by rw[<- hw2,cp _ _ _ WD,hw1];exact hmp
   have hJ1:J ss w1:=hJ ss wr w1 none hJs hg1 (fun r e=>by cases e);have hJ2:J ss w2:=by
    rw[<- hw2];exact hJ ss w1 _ (some W.heap.size) hJ1 (lW w1 _ _) (fun r e=>by cases e;exact⟨acC _,_,by rw[hw1];exact hit,rfl⟩)
   have hen:=zo (P:=Tryz.prog) hit2 hmp2 hst i2;rw[hue]at hen;rw[hw2,hue];clear hw2;have hsl:ss.length<ks.length:=by have:=hperm.length_eq;simp at this;omega
   generalize hkx:ks[i]! = kx at hen hue |-;obtain⟨k1,k2⟩:=kx;have hJ3:J ss (w2.alloc (.cells #[.string k1,.string k2] 60)):=hJ ss w2 _ none hJ2 (World.grownBy_alloc w2 _ none) (fun r e=>by cases e);have hit3:(w2.alloc (.cells #[.string k1,.string k2] 60)).heap[W.heap.size]? = some (.mapIter (some b) clock (seen.push u.born) clock):=(alloc_old w2 _ (acN.1 hit2).1).trans hit2;have hmp3:(w2.alloc (.cells #[.string k1,.string k2] 60)).heap[b]? = some (.map es clock):=(alloc_old w2 _ (acN.1 hmp2).1).trans hmp2;obtain⟨fn,tmps,assign,body,hy,hR⟩:=hY ss (k1,k2) _ hJ3 hsl;simp only[mZ]at hen hy |-
   gi_wp2
   refine hR.mono ?_;rintro e W3 (⟨rfl,hJ3,hk3⟩|⟨rfl,hJx3⟩)
   ·gi_wp2
    have hit3:=hk3.same _ _ hit3 rfl;have hmp3:=hk3.same _ _ hmp3 rfl
    go_roundw
    case rel=>
     refine⟨_,_,ss++[(k1,k2)],hit3,acC _,hmp3,?_,hJ3⟩;rw[hpush];refine List.Perm.trans ?_ hpm;rw[aec];refine List.Perm.append_left ss ?_;exact ((hperm.map fun i=>ks[i]!).trans (by rw[ac3,hkx];rfl)).symm
    case measure=>
     simp only[wZ,hit3,hmp3,hit,hmp,hpush]
     have:=hperm.length_eq
     simp at this;omega
   ·gi_wp2
    refine bodyPost_ret (results_none rfl _ _ _) rfl ?_;exact⟨⟨_,rfl⟩,.inr ⟨ss++[(k1,k2)],trivial,hJx3⟩⟩
set_option maxRecDepth 100000 in
set_option maxHeartbeats 1000000 in
def Fp(F:Fence)(n:Nat)(h10:F.fn 105)(hro:F.round=none)(l Bm Bo:Nat)(J:List iM->World->Prop)(W:World)(hJ:AbidesFrom W.heap.size J)(hm:W.cell? ⟨Bm,Bo,none⟩=some (.map none))(h0:J [] W):
  CallsIn F n Tryz.prog 105 #[.func (.yield l) #[] #[],.pointer (some ⟨Bm,Bo,none⟩)] W fun e W'=>(∃v,e= .returned v)/\J [] W':=by
 have hrg:(Instr.range 116 (.map none)).run Tryz.prog W= .ok (.pointer (some ⟨W.heap.size,0,none⟩)) (W.alloc (.mapIter none 0 #[] 0)):=by
  simp[Instr.range,run_underlying Tryz.underlying116]
 refine callsIn_of_wp Tryz.func105 rfl h10 ?_ hro;simp only[Tryz.ntmps105,adn,acR,acS,Nat.reduceAdd,Nat.reduceSub,adq,adr,adC,adw,acT,ac1]
 gi_wp2_with (first
  |(gi_at_range;refine gx rfl _ 116 rfl hrg ?_)
  |gi_in)
 have hit0:(W.alloc (.mapIter none 0 #[] 0)).heap[W.heap.size]? = some (.mapIter none 0 #[] 0):=World.alloc_heap_new W _;have hJ0:=hJ [] W _ none h0 (World.grownBy_alloc W (.mapIter none 0 #[] 0) none) (fun r e=>by cases e);generalize (W.alloc (.mapIter none 0 #[] 0))=W0 at hit0 hJ0 |-;have hnx:∀ty,(Instr.next (.pointer (some ⟨W.heap.size,0,none⟩)) false ty).run Tryz.prog W0= .ok (.tuple #[.bool false]) W0:=fun ty=>by
  simp[Instr.next,jS hit0 AI]
 go_frame
 gi_loopw [3] (fun _ wr=>wr=W0) (fun _ _=>0)
 case atStart=>rfl
 case round=>
  subst hrel
  gi_wp2_with (first
   |(gi_at_next;refine gS rfl _ rfl (hnx _) ?_)
   |gi_in)
  go_end0
  exact⟨⟨_,rfl⟩,hJ0⟩
def Ae(F:Fence)(n:Nat)(h10:F.fn 105)(hro:F.round=none)(hn:1<=n)(Bm Bo:Nat)(ks:List iM)(w:World)(hBm:Bm<w.heap.size)(hc:(w.cell? ⟨Bm,Bo,none⟩=some (.map none)/\ks=[])\/∃b es clock,w.cell? ⟨Bm,Bo,none⟩=some (.map (some b))/\w.heap[b]? = some (.map es clock)/\my es.toList clock/\es.toList.map (·.key)=ks.map mZ):
  SeqStopsK F n Tryz.prog 105 #[.pointer (some ⟨Bm,Bo,none⟩)] (fun x:iM=>#[mZ x]) KeepsWalks (fun ss=>ss.Perm ks) (fun _=>True) ks.length w:=fun l J Jx W hW hJ _ hY h0=>by
 rcases hc with⟨hc,rfl⟩|⟨b,es,clock,hc,hmap,hst,hks⟩
 ·exact (Fp F n h10 hro l Bm Bo J W hJ ((hW.cell (p:=⟨Bm,Bo,none⟩) hBm).trans hc) h0).mono fun e W' ⟨he,hj⟩=>⟨he,.inl ⟨[],.refl _,hj⟩⟩
 ·exact HP F n h10 hro hn l Bm Bo b es clock ks hks hst J Jx hY W hJ ((hW.cell (p:=⟨Bm,Bo,none⟩) hBm).trans hc) ((hW.block b (acN.1 hmap).1).trans hmap) h0
set_option maxRecDepth 100000 in
set_option maxHeartbeats 2000000 in
def HQ(F:Fence)(n:Nat)(h10:F.fn 225)(hro:F.round=none)(hn:1<=n)(l Bm Bo b:Nat)(es:Array MapEntry)(clock:Nat)(ks:List iM)(hks:es.toList.map (·.key)=ks.map mZ)(hst:my es.toList clock)(J Jx:List iM->World->Prop)
  (hY:∀pre x W,J pre W->pre.length<ks.length->YieldAt F (n-1) Tryz.prog l #[mZ x] W fun e W'=>
   (e= .returned (.bool true)/\J (pre++[x]) W'/\KeepsWalks W W')\/(e= .returned (.bool false)/\Jx (pre++[x]) W'))
  (W:World) (hJ:AbidesFrom W.heap.size J) (hm:W.cell? ⟨Bm,Bo,none⟩=some (.map (some b))) (hmap:W.heap[b]? = some (.map es clock)) (h0:J [] W):
  CallsIn F n Tryz.prog 225 #[.func (.yield l) #[] #[],.pointer (some ⟨Bm,Bo,none⟩)] W fun e W'=>(∃v,e= .returned v)/\
   ((∃ss:List iM,ss.Perm ks/\J ss W')\/(∃pre:List iM,True/\Jx pre W')):=by
 have hbl:b<W.heap.size:=(acN.1 hmap).1;have hlen:es.toList.length=ks.length:=by have:=acY List.length hks;simpa using this
 have hrg:(Instr.range 256 (.map (some b))).run Tryz.prog W= .ok (.pointer (some ⟨W.heap.size,0,none⟩)) (W.alloc (.mapIter (some b) clock #[] clock)):=by
  simp[Instr.range,run_underlying Tryz.underlying256,jS hmap AI]
 refine callsIn_of_wp Tryz.func225 rfl h10 ?_ hro;simp only[Tryz.ntmps225,adn,acR,acS,Nat.reduceAdd,Nat.reduceSub,adq,adr,adC,adw,acT,ac1]
 gi_wp2_with (first
  |(gi_at_range;refine gx rfl _ 256 rfl hrg ?_)
  |gi_in)
 have hg0:W.grownBy (W.alloc (.mapIter (some b) clock #[] clock)) none:=World.grownBy_alloc W _ none;have hit0:(W.alloc (.mapIter (some b) clock #[] clock)).heap[W.heap.size]? = some (.mapIter (some b) clock #[] clock):=World.alloc_heap_new W _;have hmp0:(W.alloc (.mapIter (some b) clock #[] clock)).heap[b]? = some (.map es clock):=(alloc_old W _ hbl).trans hmap;have hJ0:=hJ [] W _ none h0 hg0 (fun r e=>by cases e);generalize (W.alloc (.mapIter (some b) clock #[] clock))=W0 at hit0 hmp0 hJ0 |-
 go_frame
 gi_loopw [3] (fun _ wr=>∃(seen:Array Nat)(last:Nat)(ss:List iM),wr.heap[W.heap.size]? = some (.mapIter (some b) clock seen last)/\clock<=last/\wr.heap[b]? = some (.map es clock)/\(ss++(dF es.toList seen).map (fun i=>ks[i]!)).Perm ks/\J ss wr)
  (fun _ wr=>wZ wr W.heap.size b)
 case atStart=>
  refine⟨#[],clock,[],hit0,acC _,hmp0,?_,hJ0⟩;rw[wg,hlen,acT];have:(List.range ks.length).map (fun i=>ks[i]!)=ks:=by
   apply aee
   ·simp
   ·intro i h1 h2;simp[acH h2]
  rw[this]
 case round=>
  obtain⟨seen,last,ss,hit,hcl,hmp,hpm,hJs⟩:=hrel;have hls:ss.length+(dF es.toList seen).length=ks.length:=by have:=hpm.length_eq;simpa using this
  have hiW:W.heap.size<wr.heap.size:=(acN.1 hit).1
  gi_wp2_with (first
   |(gi_at_next;refine nI rfl _ rfl rfl hit hmp hst.1 hcl ?_ ?_)
   |gi_in)
  ·intro i1
   gi_wp2
   go_end0
   rw[i1]at hpm;exact⟨⟨_,rfl⟩,.inl ⟨ss,by simpa using hpm,hJs⟩⟩
  ·intro i u w1 i1 i2 i3;have i2:es.toList[i]? = some u:=by simpa using i2
   have hil:i<ks.length:=by rw[<- hlen];exact jv i2
   have hue:u.key=mZ ks[i]!:=by
    have:(es.toList.map (·.key))[i]? = (ks.map mZ)[i]?:=by rw[hks]
    rw[adK,adK,i2,acH hil]at this;simp only[adv,acz]at this;rw[this,acF ks i hil]
   have hperm:=vQ (rG es.toList seen) i1;have hpush:=oZ hst.2 (seen:=seen) i2;have hg1:wr.grownBy w1 none:=by rcases i3 with rfl|rfl;exact⟨rfl,rfl,rfl,acC _,fun _ _ _=>rfl⟩;exact yv _
   obtain⟨w2,hw2⟩:∃w2,dy w1 W.heap.size (.mapIter (some b) clock (seen.push u.born) clock)=w2:=⟨_,rfl⟩;have hw1:w1.heap=wr.heap:=by rcases i3 with rfl|rfl<;>rfl
   have hit2:w2.heap[W.heap.size]? = some (.mapIter (some b) clock (seen.push u.born) clock):=by rw[<- hw2];exact kz _ (by rw[hw1];exact hiW)
   have hmp2:w2.heap[b]? = some (.map es clock):=by rw[<- hw2,cp _ _ _ WD,hw1];exact hmp
   have hJ1:J ss w1:=hJ ss wr w1 none hJs hg1 (fun r e=>by cases e);have hJ2:J ss w2:=by
    rw[<- hw2];exact hJ ss w1 _ (some W.heap.size) hJ1 (lW w1 _ _) (fun r e=>by cases e;exact⟨acC _,_,by rw[hw1];exact hit,rfl⟩)
   have hen:=zo (P:=Tryz.prog) hit2 hmp2 hst i2;rw[hue]at hen;rw[hw2,hue];clear hw2;have hsl:ss.length<ks.length:=by have:=hperm.length_eq;simp at this;omega
   generalize hkx:ks[i]! = kx at hen hue |-;obtain⟨k1,k2⟩:=kx;have hJ3:J ss (w2.alloc (.cells #[.string k1,.string k2] 60)):=hJ ss w2 _ none hJ2 (World.grownBy_alloc w2 _ none) (fun r e=>by cases e);have hit3:(w2.alloc (.cells #[.string k1,.string k2] 60)).heap[W.heap.size]? = some (.mapIter (some b) clock (seen.push u.born) clock):=(alloc_old w2 _ (acN.1 hit2).1).trans hit2;have hmp3:(w2.alloc (.cells #[.string k1,.string k2] 60)).heap[b]? = some (.map es clock):=(alloc_old w2 _ (acN.1 hmp2).1).trans hmp2;obtain⟨fn,tmps,assign,body,hy,hR⟩:=hY ss (k1,k2) _ hJ3 hsl;simp only[mZ]at hen hy |-
   gi_wp2
   refine hR.mono ?_;rintro e W3 (⟨rfl,hJ3,hk3⟩|⟨rfl,hJx3⟩)
   ·gi_wp2
    have hit3:=hk3.same _ _ hit3 rfl;have hmp3:=hk3.same _ _ hmp3 rfl
    go_roundw
    case rel=>
     refine⟨_,_,ss++[(k1,k2)],hit3,acC _,hmp3,?_,hJ3⟩;rw[hpush];refine List.Perm.trans ?_ hpm;rw[aec];refine List.Perm.append_left ss ?_;exact ((hperm.map fun i=>ks[i]!).trans (by rw[ac3,hkx];rfl)).symm
    case measure=>
     simp only[wZ,hit3,hmp3,hit,hmp,hpush]
     have:=hperm.length_eq
     simp at this;omega
   ·gi_wp2
    refine bodyPost_ret (results_none rfl _ _ _) rfl ?_;exact⟨⟨_,rfl⟩,.inr ⟨ss++[(k1,k2)],trivial,hJx3⟩⟩
set_option maxRecDepth 100000 in
set_option maxHeartbeats 1000000 in
def Ft(F:Fence)(n:Nat)(h10:F.fn 225)(hro:F.round=none)(l Bm Bo:Nat)(J:List iM->World->Prop)(W:World)(hJ:AbidesFrom W.heap.size J)(hm:W.cell? ⟨Bm,Bo,none⟩=some (.map none))(h0:J [] W):
  CallsIn F n Tryz.prog 225 #[.func (.yield l) #[] #[],.pointer (some ⟨Bm,Bo,none⟩)] W fun e W'=>(∃v,e= .returned v)/\J [] W':=by
 have hrg:(Instr.range 256 (.map none)).run Tryz.prog W= .ok (.pointer (some ⟨W.heap.size,0,none⟩)) (W.alloc (.mapIter none 0 #[] 0)):=by
  simp[Instr.range,run_underlying Tryz.underlying256]
 refine callsIn_of_wp Tryz.func225 rfl h10 ?_ hro;simp only[Tryz.ntmps225,adn,acR,acS,Nat.reduceAdd,Nat.reduceSub,adq,adr,adC,adw,acT,ac1]
 gi_wp2_with (first
  |(gi_at_range;refine gx rfl _ 256 rfl hrg ?_)
  |gi_in)
 have hit0:(W.alloc (.mapIter none 0 #[] 0)).heap[W.heap.size]? = some (.mapIter none 0 #[] 0):=World.alloc_heap_new W _;have hJ0:=hJ [] W _ none h0 (World.grownBy_alloc W (.mapIter none 0 #[] 0) none) (fun r e=>by cases e);generalize (W.alloc (.mapIter none 0 #[] 0))=W0 at hit0 hJ0 |-;have hnx:∀ty,(Instr.next (.pointer (some ⟨W.heap.size,0,none⟩)) false ty).run Tryz.prog W0= .ok (.tuple #[.bool false]) W0:=fun ty=>by
  simp[Instr.next,jS hit0 AI]
 go_frame
 gi_loopw [3] (fun _ wr=>wr=W0) (fun _ _=>0)
 case atStart=>rfl
 case round=>
  subst hrel
  gi_wp2_with (first
   |(gi_at_next;refine gS rfl _ rfl (hnx _) ?_)
   |gi_in)
  go_end0
  exact⟨⟨_,rfl⟩,hJ0⟩
def Af(F:Fence)(n:Nat)(h10:F.fn 225)(hro:F.round=none)(hn:1<=n)(Bm Bo:Nat)(ks:List iM)(w:World)(hBm:Bm<w.heap.size)(hc:(w.cell? ⟨Bm,Bo,none⟩=some (.map none)/\ks=[])\/∃b es clock,w.cell? ⟨Bm,Bo,none⟩=some (.map (some b))/\w.heap[b]? = some (.map es clock)/\my es.toList clock/\es.toList.map (·.key)=ks.map mZ):
  SeqStopsK F n Tryz.prog 225 #[.pointer (some ⟨Bm,Bo,none⟩)] (fun x:iM=>#[mZ x]) KeepsWalks (fun ss=>ss.Perm ks) (fun _=>True) ks.length w:=fun l J Jx W hW hJ _ hY h0=>by
 rcases hc with⟨hc,rfl⟩|⟨b,es,clock,hc,hmap,hst,hks⟩
 ·exact (Ft F n h10 hro l Bm Bo J W hJ ((hW.cell (p:=⟨Bm,Bo,none⟩) hBm).trans hc) h0).mono fun e W' ⟨he,hj⟩=>⟨he,.inl ⟨[],.refl _,hj⟩⟩
 ·exact HQ F n h10 hro hn l Bm Bo b es clock ks hks hst J Jx hY W hJ ((hW.cell (p:=⟨Bm,Bo,none⟩) hBm).trans hc) ((hW.block b (acN.1 hmap).1).trans hmap) h0
attribute [local go_sem] Oper.semAt_some
def mB(x:iM):List Value:=[.string x.1,.string x.2]
def Vb:(Tryz.prog.info? 60).map (fun i=>(i.zero,i.size,i.bytes))=some (some (.agg #[.string ⟨#[]⟩,.string ⟨#[]⟩]),2,32):=BT
def cell_two_new(w:World)(x y:Value)(t:TypeId):∀j u,[x,y][j]? = some u->(w.alloc (.cells #[x,y] t)).cell? ((⟨w.heap.size,0,none⟩:Addr).add j)=some u:=by
 intro j u hj
 match j,hj with
 |0,hj=>simp at hj;subst hj;simp[Addr.add]
 |1,hj=>simp at hj;subst hj;simp[Addr.add]
set_option maxRecDepth 100000 in
set_option maxHeartbeats 4000000 in
def UF(F:Fence)(n:Nat)(h3:F.fn 165)(hro:F.round=none)(hn:3<=n)(g:Nat)(lb:Array Value)(hFg:F.fn g)(eg:∀args w,(callFunc g args).run Tryz.prog w= .ok (.enter g args) w)(S Sp:List iM->Prop)(N:Nat)(hN:N<=1000000)(w:World)(hseq:SeqStopsK F (n-1) Tryz.prog g lb (fun x:iM=>#[mZ x]) KeepsWalks S Sp N w):
  CallsIn F n Tryz.prog 165 #[.slice none 0 0,.func (.func g) #[] lb] w fun e w'=>∃v ss,e= .returned v/\S ss/\w'.ownsRow w.heap.size 60 2 v ss.length (ss.flatMap mB)/\(v= .slice none 0 0↔ss=[])/\Below w.heap.size w w':=by
 have h1:1<=n:=WD
 obtain⟨i0,hi,hz0,hz1,hz2⟩:=info_parts Vb;refine callsIn_of_wp_marks Tryz.func165 rfl h3 ?_ hro;simp only[Tryz.ntmps165,adn,acR,acS,Nat.reduceAdd,Nat.reduceSub,adq,adr,adC,adw,acT,ac1]
 gi_wp2
 have b0:=Boxed.new w 57 (.slice none 0 0);have hB0:Below w.heap.size w (w.alloc (.cells #[.slice none 0 0] 57)):=(Below.refl _ w).alloc (acC _) _;have hsz:(w.alloc (.cells #[.slice none 0 0] 57)).heap.size=w.heap.size+1:=AI
 obtain⟨W0,hW0⟩:∃W0,w.alloc (.cells #[.slice none 0 0] 57)=W0:=⟨_,rfl⟩;rw[hW0]at b0 hB0 hsz |-;clear hW0;refine wpIn_rangeFunc_ownH hro h1 (gf:=g) (lb:=lb) rfl hFg eg hseq walksK_t walksK_b hB0 (fun _=>rfl)
  (fun pre W=>(∃v,Boxed W w.heap.size 57 v/\W.ownsRow w.heap.size 60 2 v pre.length (pre.flatMap mB)/\(v= .slice none 0 0↔pre=[]))/\Below w.heap.size w W)
  (fun _ _ _=>False)
  ?hI (fun c s A B row h=>h.elim) ⟨⟨_,b0,World.ownsRow_nil _ _ _ _,AI⟩,hB0⟩
  (fun y a' W=>∃Bx,w.heap.size<Bx/\W.heap[Bx]? = some (.cells #[.string y.1,.string y.2] 60 (0,0))/\a'= { tmps:=#[.slice none 0 0,.func (.func g) #[] lb,.pointer (some ⟨w.heap.size,0,none⟩),undef,.slice none 0 0,.pointer (some ⟨Bx,0,none⟩),.func (.func g) #[] lb,mZ y,undef,undef,undef,undef,undef],defers:=[] })
  (fun y a' _ X Y row hs hg hr=>by
   obtain⟨Bx,h1,h2,h3⟩:=hs;exact⟨Bx,h1,(hg.block Bx (acN.1 h2).1 (fun e=>by obtain⟨_,o,ho,hc⟩:=hr Bx e.symm;rw[h2]at ho;cases ho;cases hc)).trans h2,h3⟩)
  ?assign ?body ?done ?stop
 case hI=>
  exact OwnFrom.and (Own.from (holdsRow_own w.heap.size w.heap.size 57 60 2 (fun pre:List iM=>pre.length) (fun pre=>pre.flatMap mB) (fun pre v=>(v= .slice none 0 0↔pre=[]))) _) (ownFrom_below (acC _) WD)
 case assign=>
  rintro l pre y W K ⟨⟨v,hv,hr,hnl⟩,hB⟩ hK;obtain⟨y1,y2⟩:=y;simp only[mZ]at hK |-
  gi_wp2
  exact hK _ _ ((KeepsOthers.alloc _ _).from _) (KeepsWalks.alloc _ _) ⟨⟨v,hv.alloc _,hr.alloc _,hnl⟩,hB.alloc hB.size _⟩ ⟨W.heap.size,hv.lt,World.alloc_heap_new W _,rfl⟩
 case body=>
  rintro l pre y a' W hl ⟨r,hr⟩ ⟨⟨v,hv,hrow,hnl⟩,hB⟩ ⟨Bx,hlt,rx,rfl⟩ hlen;obtain⟨y1,y2⟩:=y;simp only at rx |-;have zR:W.cell? ⟨Bx,0,none⟩=some (.string y1):=by simp[World.cell?,rx]
  have cx1:W.cell? ⟨Bx,1,none⟩=some (.string y2):=by simp[World.cell?,rx]
  have hvc:=hv.cell
  gi_wp2_with (first
   |(gi_at_builtin;refine wpListIn_append_own _ rfl _ _ 57 rfl w.heap.size 60 i0 (.agg #[.string ⟨#[]⟩,.string ⟨#[]⟩]) 2 32 Tryz.underlying57 hi hz0 hz1 hz2 rfl Vc _ _ _ rfl (hrow.alloc _) ⟨W.heap.size,0,none⟩ 1 1 [.string y1,.string y2] rfl rfl (cell_two_new _ _ _ _) (by simp[Value.oneCell']) (by unfold maxLen;omega) WD (by have:=hB.size;simp;omega) ?_;intro v' w1 hown' hgrow _;obtain⟨g',cap',rfl⟩:=ownsRow_succ hown';obtain⟨hv1,hv2,hr2,hk2,hb2⟩:=hv.appended Vc hrow hB.size (acC _) hown' hgrow;have hc1:=hv1.cell;have hf1:=hv1.frozen)
   |gi_in)
  refine⟨hk2.from _,⟨hk2.size,fun k o h hw=>hk2.same k o h (Obj.not_cells_of_walk hw)⟩,⟨_,hv2,?_,AI⟩,hB.trans hb2⟩;have e1:(pre++[(y1,y2)]).length=pre.length+1:=AI
  have e2:(pre++[(y1,y2)]).flatMap mB=pre.flatMap mB++[.string y1,.string y2]:=by simp[mB]
  rw[e1,e2];exact hr2
 case done=>
  rintro D ys W hD hS ⟨⟨v,hv,hrow,hnl⟩,hB⟩ hK;have hvc:=hv.cell
  gi_wp2
  refine⟨AI,.inl ⟨_,_,rfl,run_takeDeferred hK,?_⟩⟩;exact⟨_,results_tmp rfl _ _ _,v,ys,rfl,hS,ownsRow_putObj hrow _ hK rfl,hnl,hB.trans (belowK_b (w:=w) (acC _) W D _ _ WD hK rfl rfl)⟩
 case stop=>
  rintro D c pre W hD _ h hK;exact h.elim
end Go.Proofs.YtkidiopjcgeifaaGreat
