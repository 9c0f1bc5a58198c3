/- What the functions compute, part 3. Conditions: bounds. -/
import Derived.Test.YtkidiopjcgeifaaGreatTb
set_option linter.defProp false
set_option linter.unusedSimpArgs false
set_option linter.unusedVariables false
namespace Go.Proofs.YtkidiopjcgeifaaGreat
open Go Go.Av Go.Av.Ap
set_option maxRecDepth 100000
set_option maxHeartbeats 4000000
noncomputable section
abbrev FW(G:(List AV->M AV)->List AV->M AV):Prop:=∀vs,ae G vs=G (ae G) vs
def lB{α β:Type}{m:M α}{f:α->M β}{fs:Nat->α->M β}(hf:cB f fs):dz (aG m f) fun n=>aG m (fs n):=dz.bnd (fo _) hf
def lA{β:Type}{f:β->M AV}{fs:Nat->β->M AV}(h:cB f fs)(x:β):dz (f x) fun n=>fs n x:=h x
def lZ{F:(List AV->M AV)->List AV->M AV}{Fs:Nat->(List AV->M AV)->List AV->M AV}(vs:List AV)(h1:∀a b,cB a b->∀v,dz (F a v) fun n=>Fs n (b n) v)(h2:∀a b,cB a b->∀v,dz (F a v) fun n=>F (b n) v)(h3:∀n a b,cB a b->∀v,dz (Fs n a v) fun k=>Fs n (b k) v):dz (ae F vs) fun n=>ae (Fs n) vs:=KE h1 h2 h3 vs
def eH{G:(List AV->M AV)->List AV->M AV}(h:∀a b,cB a b->∀v,dz (G a v) fun n=>G (b n) v:=by intros;repeat' first|with_reducible refine lB fun _=>?_|with_reducible refine uz ?_ ?_|with_reducible exact fo _|(with_reducible refine lA ?_ _;assumption)|with_reducible (refine lZ _ ?_ ?_ ?_<;>intros)|with_reducible refine yw ?_|with_reducible refine BI ?_|with_reducible (refine dz.bnd ?_ fun _=>?_)|refine lB fun _=>?_|refine uz ?_ ?_|(refine lA ?_ _;assumption)):FW G:=fun vs=>Ji h vs
def gLl(G:bG)(h:∀c,FW (G c ae):=by intro;exact eH):=h
def cY{k:Nat}{fn:Go.Func}{g:Ann}{xs l:List AV}{m:M AV}(h1:pg.other k=none:=by exact rfl)(h2:pg.funcs k=some (fn,g):=by exact rfl)(h3:g.iso=true:=by exact rfl)(hl:eB ai xs=l:=by exact rfl)(h:cj (pg.cx (aa pg) fn.ntmps g) ae fn (own k) l=m:=by kernel_rfl):aa pg k xs=aF m:=by subst hl;exact (fw hOther h1 h2 h3 xs).trans (acY aF h)
def cZ{k:Nat}{fn:Go.Func}{g:Ann}{xs:List AV}{m:M AV}(h1:pg.other k=none:=by exact rfl)(h2:pg.funcs k=some (fn,g):=by exact rfl)(h3:g.iso=false:=by exact rfl)(h:cj (pg.cx (aa pg) fn.ntmps g) ae fn (own k) xs=m:=by kernel_rfl):aa pg k xs=m:=(Ha hOther h1 h2 h3 xs).trans h
def cYy1(k:Nat)(S:lC)(h:∀x0,aa pg k [x0]=aF (S (aa pg) ae (cl ai x0)):=by intros;exact cY):=h
def cYy2(k:Nat)(S:cd)(h:∀x0 x1,aa pg k [x0,x1]=aF (S (aa pg) ae (cl ai x0) (cl ai x1)):=by intros;exact cY):=h
def cZz2(k:Nat)(S:cd)(h:∀x0 x1,aa pg k [x0,x1]=S (aa pg) ae x0 x1:=by intros;exact cZ):=h
def cYy3(k:Nat)(S:dZ)(h:∀x0 x1 x2,aa pg k [x0,x1,x2]=aF (S (aa pg) ae (cl ai x0) (cl ai x1) (cl ai x2)):=by intros;exact cY):=h
def cZz3(k:Nat)(S:dZ)(h:∀x0 x1 x2,aa pg k [x0,x1,x2]=S (aa pg) ae x0 x1 x2:=by intros;exact cZ):=h
def cYy4(k:Nat)(S:jH)(h:∀x0 x1 x2 x3,aa pg k [x0,x1,x2,x3]=aF (S (aa pg) ae (cl ai x0) (cl ai x1) (cl ai x2) (cl ai x3)):=by intros;exact cY):=h
def cZz4(k:Nat)(S:jH)(h:∀x0 x1 x2 x3,aa pg k [x0,x1,x2,x3]=S (aa pg) ae x0 x1 x2 x3:=by intros;exact cZ):=h
def L7_0:bG:=bH "ζmѹ;ЭϽϤUБÀВ08[ϑζsң¨Эk0?ƸqD%t+λϾ@ύң¶ЭϪϿƸљP=ƙ+Пά@Ϫң¶ЭϫϿƸ$,S=ƚ+Ϭҿu0]uӒn6T@sң;Эњ3ί@ϭ0M¦MЀӡ3Ϯ@Рν=t+Ϯ@ύNt=ƛ+_Г½@Ϫ63ћφD=t+_Г½@ϫ63ћ`t=ƛ+_Г½@In63ћqt=ƛ+ξ"
def FL7_0:=gLl L7_0
def S7:lC:=mf "оA9έ" [.YR L7_0]
def C7:=cYy1 7 S7
def L8_0:bG:=bH "ΰƙϯƸaW$cοСqªvϒ)νϒ.,І><ϭwТӋπϒRdќχ&ДTηh'P%ƠαλϰϒndќҤƍcI¤6Сq¡|ϒ¤4'ÆðЕпvϒ§dќҤƎCÐЁÐ:ºҶҥθE"
def L8_1:bG:=bH "ϠMώ*cѝС`¡Ǜ$ѺǛ$)±ТўϾ@ύ6dψ*R$_ЇҥR8WCXϗX:uУ+Ђm%x+ωџќαζsң;ƙѻӀϱ" [.YR L8_0]
def FL8_0:=gLl L8_0
def FL8_1:=gLl L8_1
def S8:cd:=cq "ϥϏƜχ&ωλϓ·Ϙ1=@+ϬЇҥθYϔ70MΦϡр1Ѡ" [.YR L8_1]
def C8:=cYy2 8 S8
def L9_0:vw:=zP "Ӂ,G4QDGϲ,Юr9Ѽ%ơ+piϙiϦƋ$¬ϊR,]ӢФѡӗ3,Ë&ӗWѽpƩѾс&Ɗѿ~ÝƩ°Υϋ¬ϊ1ϳ.®ҀkUѢ3'¥&"
def L9_1:bG:=bH "Ж(ϕQƙmЯƸaWTη`4λϰC1ϳ1®ҀkUѢ'ϧϒ&dϒ)'Pϒ.4'%ơ¥!тǥѣ)²Ѓ²'!¢,ÞUϒBνҁÇÖu:nN®ϱ:n'4¼ӂ&6ZѤ&(ѽ%ƢAЈρƣι¢(³ÈAG,G3lӃ" [.YGR L9_0]
def FL9_0(call:CC)(a:RR):FW (L9_0 call ae a):=eH
def FL9_1:=gLl L9_1
def S9:lC:=mf "ϥϏ@+λЗƫХ(ӫӃϔ)dтƫаИ(³TϘ7ѹ;ƙϡϱθ<Zӂ&6ӂ&0" [.YR L9_1]
def C9:=cYy1 9 S9
def S10:jH:=kE "ϥϏ@+λϓ·Ϙ.=@+Ϭϓ·Ϙ7=@+ПάϘ7dfϘ7d҂бάϘBdfϘFd҂бϑg@ХҊθYϥFϥRϥX%ƥ<Йω×&(a*&ўЗ@ХҊ18ƛϥ!%@+λЗ@ХҊθ83ϥ.%5χßωџg@ХҊ)&ϥB¢ҊθE"
def C10:=cYy4 10 S10
def L13_0:bG:=bH "ζmνҁӌϤ(T@ον¨D$ϴrμѥϙMϦUCBϳB<Рwlϵ"
def L13_1:bG:=bH "ζmѹ;ЭӌϤ(T@Υң¨Эϴ?ƸμѥϙMϦUCBϳB<Рwlϵ"
def FL13_0:=gLl L13_0
def FL13_1:=gLl L13_1
def S13:cd:=cq "Ҧπϔ`MвZгҦ!YѦКZEҦ!уÇñ<КZEϔ$,4ϰѥѾÁÌHǭHЉǶϚвZϐϐZ" [.YR L13_0,.YR L13_1]
def C13:=cYy2 13 S13
def L24_0:bG:=bH "ϛmϽϲUБÀϤ08*ϑ¨DήϢrѼ%ƙ+ӍB0]BAР$ϛήњ5J"
def FL24_0:=gLl L24_0
def S24:lC:=mf "оχE" [.YR L24_0]
def C24:=cYy1 24 S24
def L27_0:bG:=bH "ϜmϽϲUБÀϤ08*ϑЊήϢІƚ+ӍF0]FAϭ$Ϝήњ5J"
def FL27_0:=gLl L27_0
def S27:lC:=mf "оχE" [.YR L27_0]
def C27:=cYy1 27 S27
def K31_0:Au:=D4 "2S϶%Ǒχϕω¢(³!фӃ!"
def K31_1:Au:=D4 "¯Iӄ2SIq%ǎ<mςUω¢(³!фӃ!ҋљ8Ə2SIq%Ǐ<mςUω¢(³!фӃ!ΧIqϷ%ǐ<mςUωџgх&ϸΧѧNҧƐcҀСq¡|ΧΩ(yÆòЕcϪ6Сqª|&bRVц(Xц,ц3b!Vk()k,k3" [.YG K31_0]
def S31:dZ:=eA "eЛҧ(e)Ϊ%ǌAҷТ¯!ДИӘEgх8WҧWe)ҌІ><)дТӋπgх)eRΪД!gǏϹ!ѨpDѾTKnӅ$YІǍ¥«еD$ҍ><¸$&ω¢(³!фӃ!ϸκ!8ƑжL).Ҹ&<έZκ&8ƒb&LӎϺ)<έZ" [.YG K31_1]
def C31:=cZz3 31 S31
def S36:cd:=cq "%ǖ+%ǖ¥&¯!ЇElҹЇYӌ*ѩlҹÑÉ*ѩlYlE"
def C36:=cYy2 36 S36
def L37_0:bG:=bH "Ж(ϕQȭmЯȟa*Tȟ9φǏpDϙDsƎTȟчSptϙtσƏ$¬)¬!CXϳX®ϫ6ϫU:u'Ƌ¼7):uƐѿ¢*³с!WӤlӥθ^"
def K37_0:Au:=D4 "%ǥA϶I$ƕωλЗ@ХҊÁÌHǭHЉǶϚτ;ȭ&о®)έ:10Ƌ¼ϝ:1Ǝѿ" [.YR L37_0]
def L37_1:bG:=bH "Ж5шQȭЈς5ȟa*Tȟ9φǏpDϙDsƔTȟчSptϙtσƕ$¬)¬!CX5]X:u65ѡ:u*Ƌ¼7):uMѿ2ȦәζGңζϵѹζϴѹ%ǢV)Йω×&(¬&ўЗ@ХҊ1τ2ȪϪ4Ђϫ6zǤ+Ђц0zǤ+ЂI¤(zǤ+ziV7.Ϋω×&(λЗ@ХҊ.τ;ȳ)щv¢*³сÊƒ4Ë¾:ÊDϧlӥθ^Qȳ.Eƛ¬^¢'³!ЂIÒ(¢*³$ϸζIü0,4ί@Iä03ƛåȳuEƛÂǞαϑЂIì0¢*³$b.ËIí,:í*ƍ¼ÒBѤFN:ӬӤb&ËIì,:ì*ƍ¼¿7Ѥ1NѤ)d£" [.YG K37_0]
def FL37_0:=gLl L37_0
def FL37_1:=gLl L37_1
def S37:dZ:=eA "ϔμт@аИ*ý(|gȝϹρǗιМρǘιъgȣϹρǙιМρǚιъgȦϹρǛιМρǜιъgȪϹρǝιМρǞιъ2ȝϺϔu0Mϔ«0Mϔ¤0M%ǟV)Йω×&(¬&ўЗ@ХҊ1τ2ȣ9«ϥºzǡ+ϥ¿zǡ+ϥØzǡ+zǠV7.Ϋω×&(λЗ@ХҊ.τ;ȭ)Ҏ9í9þ9ÿ9¿L9ß.дLEθϝLϝτZLϝӂä6¾¼ϝѤä4ѿ" [.YR L37_1]
def C37:=cYy3 37 S37
def L38_0:bG:=bH "ΦҨЦΣGΪщϋϵl^C)ϳ)<ήϢϐτ"
def FL38_0:=gLl L38_0
def S38:cd:=cq "оβπ" [.YR L38_0]
def C38:=cYy2 38 S38
def S40:cd:=cq "ыНыЛѪίь)зfь1з=ƫҩ"
def C40:=cYy2 40 S40
def S41:cd:=cq "eНeЛѪίK)yи1ЧЕϮK.Ϊи7ΪψбϮK1ОиFОψбϮK7ШиBШ=ǦҪKFϷиRϷ=Ƭҩ"
def C41:=cYy2 41 S41
def L50_0:vw:=zP "Ӂ3G,ЊG4G3Sa3ϞKϏǮβϝӆ4!ӋπфZ!2j$p>ϙ>Ϫ5$¬ϊn3]n:«63βц[&pǁѾÈAG[G5еǁοϊ.ӭV!ҏsЃ"
def L50_1:bG:=bH "ΰxϯ@a*TϘμтɅаИ(ÞUϔ)'tϜTϘ1νҁпҐϐҥZѫϔF'tϜ$ÇÖX:uҫϱӂ76ѬфmE" [.YGR L50_0]
def FL50_0(call:CC)(a:RR):FW (L50_0 call ae a):=eH
def FL50_1:=gLl L50_1
def S50:lC:=mf "%ǭ+џфZЋx!ґZӓ" [.YR L50_1]
def C50:=cYy1 50 S50
def S53:cd:=cq "υНυЛѪίj)yfj1ЧЕϮj.(Mfj7(M=ǦҪj1'>fjF'>=Ȁҩ"
def C53:=cYy2 53 S53
def L57_0:bG:=bH "ϠDώЮQDҬЮ2Ǐγ2Ǐόδҭ"
def FL57_0:=gLl L57_0
def S57:dZ:=eA "ҁϛϨϛҒ" [.YR L57_0]
def C57:=cYy3 57 S57
def S59:cd:=cq "ыНыЛѪίь)зfь1з=ƹҮƺιξ"
def C59:=cYy2 59 S59
def L61_0:bG:=bH "ΰMэ*ЦѝGОпбӏӦ^"
def FL61_0:=gLl L61_0
def S61:cd:=cq "Φ$ΦϨΦ&ґ).έ" [.YR L61_0]
def C61:=cYy2 61 S61
def L71_0:bG:=bH "Ж,ЌQDςғ,ЮrѭѺȊεЃ°ϾǏγd=ǆ+ПάǏчP=ǈ+ϬҔrЩd~ÓȊσЃ^CR,]ӢФ+ϛmÆÃ|ѝJ"
def FL71_0:=gLl L71_0
def S71:cd:=cq "~Ùϛ!Ҏѩ!&χE" [.YR L71_0]
def C71:=cYy2 71 S71
def S75:jH:=kE "g@а$тǝа$~àæϞK1%><!1$ТӋπl!c1Сq¡|пvl8ƎД)Д¸%ƠαλЇѫlE"
def C75:=cYy4 75 S75
def K81_0:Au:=D4 "үI`Зхѫ¡Pm¢ӘE"
def L81_0:vw:=zP "Ӂ,G4QiGϲ,Pъ©PϢ0¡DTSkУMЦ$Ϧ,*Д.gǏϹ!ѨpDӇ~ÝD°1$©Pϫ00ªD$!C«,]«:¸ФβѮ3Ѯ[b$VѝЄG3G["
def K81_1:bG:=bH "¯ЈδЯ¥Y©PG'6ª|])VεҐε[ε5ю,8Ƌ2iϕQi$YP2iϵQi$уPzȊЪωªPσ'!Í!·iΩ0¶iέfPНψϟ_bRVύ|ύ[ύ5ю,ѫ©Pә6ªϩ(2iϵ;i$ÇÖҕϖsЍ14!Vέs[s5ю,8Ǝ2iϕ¨iέ?P`DΧήΪ%ǌαωªPσ'!bBVΩ'!Ω[Ω5b$Vςғ4шς5" [.YGR L81_0]
def K81_2:bG:=bH "¯ЈδЯҖb!VG|G[G5ю,Y©Pә6ª|]&VΥϤ4Υ[Υ5ю,83δЯҖ©PG'6ª|])VεҐε[ε5ю,8[δЯҖϓçóЄ¥Y_©Pӈ6ª|].VsҐs[s5ÄÔйϲ,85жк63βΥ[Υ5ΤϤ,8*ѯӐ63βε[ε5ΤВ,8Ɗb):163βs[s5" [.YGG K81_1]
def FL81_0(call:CC)(a:RR):FW (L81_0 call ae a):=eH
def S81:cd:=cq "тPá~àAEâªP$!ϸe.NÄĀ!κ!8'жLѰрρȈЎр1L^ӓѬκ&84ѯLрҗρȈЎҗ7L^)έѬκ)8,я)Lҗ9hρȈЎ9hFL^.έѬκ.8Ɛbҕ9h9XρȈЎ9XBL^1έѬ" [.YG K81_0,.YGG K81_2]
def C81:=cYy2 81 S81
def S87:lC:=mf "J"
def C87:=cYy1 87 S87
def S88:cd:=cq "Τϋ!J"
def C88:=cYy2 88 S88
def S94:cd:=cq "Ҙ9φDҘγ6D%Ȗαίƛчtћҙt=ƾҮƼιϮƛЩ(tћϺ(t=ƾҮƼιξ"
def C94:=cYy2 94 S94
def K95_0:bG:=bH "¯ςƋвЌшC&Ɗ]&кҫ!Υ,Υ5Υ*ҰҺZЈτ"
def L95_0:bG:=bH "Ж5шЦЈς5*?ȝG'6Țδ$¥!%ȘAε,$ϰC15]1Ѣ65+ѥѾ!вk,ϞȝϦѐșβϭ.2ȝΩѐșβύ072ȝϪѐșβϫ(B?ȝInёț%Ț<1ҷϰвѮ4&C¤5]¤:¾ҫ!hл3л[+ÄÔ«?ȝI¤ёț%Ț<Bдѯ:§Ф®X«Ӛ§3м?ȝI§ёț%Ț<B7$b.:µФ®n¤R:µ3'ҰҺЌθ^" [.YGG K95_0]
def FL95_0:=gLl L95_0
def S95:jH:=kE "pʟ'ѣ!М&²(ҍȗ+Φϡӎ7ѱLϝѠ" [.YR L95_0]
def C95:=cYy4 95 S95
def L108_0:bG:=bH "ΰƠϯ'п|ΣJC&Ё&кҶm"
def FL108_0:=gLl L108_0
def S108:lC:=mf ";ƠѻEϱ" [.YR L108_0]
def C108:=cYy1 108 S108
def S111:cd:=cq "%ȱβ!ρȲιJ"
def C111:=cYy2 111 S111
def S116:lC:=mf "2jϏȹҤ4J"
def C116:=cYy1 116 S116
def S136:cd:=cq "2i!%ǄЏȉЎόүг"
def C136:=cYy2 136 S136
def S137:cd:=cq "ыН2ҐѲЕJ"
def C137:=cYy2 137 S137
def S159:dZ:=eA "%ȶA!ρɕ£AКγѳlZҚϟϻÎƙ)¹!¹$ÅJ"
def C159:=cYy3 159 S159
def L160_0:bG:=bH "ΰʦϯȳеȳΣϊӛV!Ϣϴϐm"
def L160_1:bG:=bH "Ϡʦώȳ;ȳϊ)UѳϻÚ*ÁΨǬϚђѴЉǵHǴѴЉǦϣǲÌHǡђHǧϚ~Ûϊ7ϗ7Lѓ)єϦмC.ϗҕϖ!ѧsм%ɖAâϕ;ʦΣґ!οέ" [.YR L160_0]
def FL160_0:=gLl L160_0
def FL160_1:=gLl L160_1
def S160:lC:=mf ";ʦϡπѠ" [.YR L160_1]
def C160:=cYy1 160 S160
def L162_0:bG:=bH "ϠȳώƛӑQȳҬƛӑ2ƛγ2ƛόδҭ"
def FL162_0:=gLl L162_0
def S162:dZ:=eA ";ȳЋȳϨ;ȳҒ" [.YR L162_0]
def C162:=cYy3 162 S162
def L167_0:bG:=bH "ӧЊϯSa3ϞKϏȧχήC1Ё1ѢҶô£"
def FL167_0:=gLl L167_0
def S167:cd:=cq "2K$δ&+e&ϷϜѻ1ϱ" [.YR L167_0]
def C167:=cZz2 167 S167
def S168:jH:=kE "e$О?Ƽ&dѥ(Ϲ!Ѩzȩ+e.ΪgƼϹ!Ѩъ2ǶRѵόѺǶw±ӆW!enNΤϩƏГè¥)Ӊ$±ϿK¤ОψϋθѶ°Ͽη.04_Í&қ^϶ϑ2ʀºѵ9n~Óʀw^ќ£ќ£"
def C168:=cZz4 168 S168
def L169_0:bG:=bH "ΰMϯ*пϋΣJC&Ё&кҶm"
def FL169_0:=gLl L169_0
def S169:lC:=mf "Φѻθϱ" [.YR L169_0]
def C169:=cYy1 169 S169
def S172:cd:=cq "%ȴұѕvJ"
def C172:=cYy2 172 S172
def S174:lC:=mf "2jϏǴ+үг"
def C174:=cYy1 174 S174
def S175:jH:=kE "2ɉϞM&2>.gʉѣҹМ!²Ѓ2SF%Ы.wϼ"
def C175:=cZz4 175 S175
def L177_0:bG:=bH "Ϡxώ@aϋQǁҬɅъϥ&2Ʌόδҭ"
def FL177_0:=gLl L177_0
def S177:dZ:=eA ";xЋǁϨ;xҒ" [.YR L177_0]
def C177:=cYy3 177 S177
def L182_0:bG:=bH "ΰƙэƸδҲ"
def FL182_0:=gLl L182_0
def S182:cd:=cq ";ƙҜ" [.YR L182_0]
def C182:=cYy2 182 S182
def S191:lC:=mf "%Ƚ+ϓ=ɀ¥!ξ"
def C191:=cYy1 191 S191
def S192:lC:=mf "ѕ,$éêưБÃ,!éêƹξ"
def C192:=cYy1 192 S192
def S199:cd:=cq "?ǥѭΧ&ΪӔJ"
def C199:=cYy2 199 S199
def S209:dZ:=eA "?ȝ!6Ț2*)~ë!¥&Τϋ!J"
def C209:=cYy3 209 S209
def S211:dZ:=eA "?ȣ!6Ƞ2ȟό2*.~ë&¥!Τϋ!J"
def C211:=cYy3 211 S211
def S245:cd:=cq "rѭΧ&ΪӔJ"
def C245:=cYy2 245 S245
def L3_0:vw:=zP "ΦGƊϽϤƋ$БÜВ*уϑЂs4Ђk3ЦϦƊϦƋ*zƎV&!σϋλЇύ[ChƋ]h:X6Ƌ+C1*].Ѣd+"
def L3_1:bG:=bH ";ƹς*ӁƊ$¨ƹG*GƊ?Ƽμζε'ҝГ·@k(·@Ϧ4¶ƹσ*σƊfƼ`*ÂƎV)&8ЃϬЇϦ,CFƊ]ҳ6Ɗ+ζG'd%ƐLΥ[$Υ3οAϵ8õa5T@s'd%ƐLk5$k3ҀAk08õa5T@σ'dgǈѣ$МΩ3²(РpǀӇ2ǃϺpǉӇ%ƑVIn5&InUωÍI¤,·ǃ9X·ǃҗ=ƒαӜ$±Ͽǃ9u6ƦψƦ$8ƐѶ°0ψ')YѶ±0è¥)ӉΣ°0қ϶τ_Í.āο^϶ξ"
def L3_2:bG:=bH "Ж*84ЂЌzƍχG*ЂΥ,zƍχε*Ђs3zƍχk*zW<.ΫÇÖҳ6ƊχEζς,ѹϻĂ,ϲ0ζΥ,ѹ;ЭÆă'Ϋ¨ƙ.TƸμpx6áеx$РЂύ,pxϙxΫpx6áеx$ц6ЂѮ5pxϙx&T@I§,dgƼϹ$МX%ƏAF$Çñ:Ð(3LnBӮ" [.YGR L3_0,.YR L3_1]
def L3_3:bG:=bH ";xӨϋQxΣG*@%[+λЇs[Qxϖs*@%5χk5ωџlΩ[QxРΩ*@%*+pƤϙƤϫ5ϊn*]n:«65αЂG4ЂΥ,Ђε3%ƊVЙs5ω×&(a*&Ђύ,%5χϪ5ωѲƦ1EÕЀÜƦπάϘ7νf@л,ν=ƋαϬЇл[о:¾65AѰE" [.YR L3_2]
def FL3_0(call:CC)(a:RR):FW (L3_0 call ae a):=eH
def FL3_1:=gLl L3_1
def FL3_2:=gLl L3_2
def FL3_3:=gLl L3_3
def S3:um:=Cf "%ϧϥ!ϥ)ϥ1%,VЙZλϓ¦xR´ѷ(_ϓ=3Au83Ϭϓ¦Ơ«´ѷxάϘhѹ¦Эψv_ЇRҎn«¸¤L9h9X9uRAZE" [.YR L3_3]
def C3(a0 a1 a2 a3 a4 a5 a6:AV):aa pg 3 [a0,a1,a2,a3,a4,a5,a6]=aF (S3 (aa pg) ae (cl ai a0) (cl ai a1) (cl ai a2) (cl ai a3) (cl ai a4) (cl ai a5) (cl ai a6)):=cY
def L5_0:bG:=bH ";ƤmϽϲ4$БÀϤ48,ϑQƤήε4ƫ%M+ӍFϗҳУ+;Ƥήњ4Г·@k0=[+_Г·@є=[+_Г·@σ'=[+ξ"
def FL5_0:=gLl L5_0
def S5:jH:=kE "Ҏ)КόγҖ" [.YR L5_0]
theorem C5(a0 a1 a2 a3:AV):aa pg 5 [a0,a1,a2,a3]=aF (S5 (aa pg) ae (cl ai a0) (cl ai a1) (cl ai a2) (cl ai a3)):=cY
def L6_0:bG:=bH "іmϽϲЃБÃϤ(ϵϑQ>ήϴƾ%DҤǤÆѷǤϓ¶>ѓєfƾqM¦MЀѷƔ_ҿBϳB<РΩUіήÆÃ|ҏJ"
def FL6_0:=gLl L6_0
def S6:cd:=cq "оβπ" [.YR L6_0]
def C6:=cYy2 6 S6
def K12_0:bG:=bH "Қӯ]!<ΣGU"
def L12_0:bG:=bH "ΦϕӁЃÄÔ!ЦϵΥΪ%ƦAή$λϰЦk0kΪѥϙMϭ$b7βΩ0Ω(b)ѢN£lΣ" [.YGG K12_0]
def FL12_0:=gLl L12_0
def S12:dZ:=eA "ѥ6áв$!в$)в$1ѦZέ" [.YR L12_0]
def C12:=cYy3 12 S12
def S15:cd:=cq "ѵό%ư¥!%Ưұ%Ʈ+%ƭЏƱιJ"
def C15:=cYy2 15 S15
def L17_0:bG:=bH "Ж3ς,QǀЌЈǈӑ;ǉӈѕВ3$Ͼǈγdfǈч*fǈЩ(>ÂƐLϭЙAσ(8î¶ǉΩЍR3öǃ$ÂPЪϬЇҥk3τC73]7:F63+;ǀϕќχ^"
def FL17_0:=gLl L17_0
def S17:jH:=kE ";ǀ!Ҏ!ѩ.<ӓ" [.YR L17_0]
def C17:=cZz4 17 S17
def L22_0:bG:=bH "?ƫm0Ʃ;Ʃ$ϽϤUБÀВ08*ϑ?ƫϖ0ƩQƩ$k0ǥ%ǀ+ӍR0]RӒh6Tƫϖ0Ʃ;Ʃ$њ5J"
def FL22_0:=gLl L22_0
def S22:lC:=mf "оA9έ" [.YR L22_0]
theorem C22(a0:AV):aa pg 22 [a0]=aF (S22 (aa pg) ae (cl ai a0)):=cY
def S26:lC:=mf "2KϏǂβ8Ƽ8ƎњƼJ"
def C26:=cYy1 26 S26
def L30_0:bG:=bH "ΰDϯЮζοdζήν©@ϖ3ҘqtЊ$Ϧ'SrҙPzǋV1.wџrѰdќұChЁh:XҶҥθE"
def L30_1:bG:=bH "ΰDϯЮζοd©@ή3ҘφD©@Ҁ3Ҙ`tЊ$σ'SrϺ0PzǋV7.wџrрdќұCXЁX:uN+©@m3ҘφDϛѻήϱ" [.YR L30_0]
def L30_2:bG:=bH "ΰDϯЮζοdζεNtЊ$s'SrчPzǋV)ZwџrҸdќұCBЁB:RN+ζm,4λЇҥθEζονϛѻϖϱ" [.YR L30_1]
def FL30_0:=gLl L30_0
def FL30_1:=gLl L30_1
def FL30_2:=gLl L30_2
def S30:lC:=mf "ϔqDϛѻγϱ" [.YR L30_2]
def C30:=cYy1 30 S30
def S35:cd:=cq "?ǥѭ?ǥγd%ƤαJ"
def C35:=cYy2 35 S35
def L39_0:bG:=bH "ΦҨЦΣGΪщϋϵlΥ(C)ϳ)<ήϢϐҹ"
def FL39_0:=gLl L39_0
def S39:cd:=cq "оβπ" [.YR L39_0]
def C39:=cYy2 39 S39
def S42:cd:=cq "ϒμϒ&ҝίη)04Ҟ104ψ4wϮη.νҞ7ν=ƫҪη1'PҞF'P=ƨҪη74'ҞB4'ψЕϮηF,SҞR,S=Ʃҩ"
def C42:=cYy2 42 S42
def L47_0:vw:=zP "Ӂ,G4QƹGϲ,ƼъѵКѺǴsU±ТўϰѵϺQƹϪ(EƼ~ÓǴϫ0wѵҗpƹϙƹѮЃC¤,]¤Lл6л0!л'Ӓ¾4ϊh,]h:XФ+ϻĄƹЄ¹]!<ӝU"
def L47_1:bG:=bH ";ƹЯÑÉvQƹЄEƼ%ǪAοЋƹ$ÇÖ.:1N<ϱlѝ" [.YGR L47_0]
def FL47_0(call:CC)(a:RR):FW (L47_0 call ae a):=eH
def FL47_1:=gLl L47_1
def S47:cd:=cq "ѵόѺǶw±ӆW!ўЇą~Ùѵрѵҗ~ÓǴЙѵ9XpƹӇѦu1$" [.YR L47_1]
def C47:=cZz2 47 S47
def S58:cd:=cq "rѭrγҝίǏчPfǏҙP=ƻҩ"
def C58:=cYy2 58 S58
def S60:cd:=cq "eНeЛѪίK)yи1ЧЕϮK.Ϊи7ΪψбϮK1ОиFОψбϮK7ШиBШ=ƽҪKFϷиRϷ=ƾҮƼιξ"
def C60:=cYy2 60 S60
def L62_0:bG:=bH "ӣЊώSa3$ЊҬSa3ϞK&2K!δҭ"
def FL62_0:=gLl L62_0
def S62:dZ:=eA "Ϝ$ϜϨϜҒ" [.YR L62_0]
def C62:=cYy3 62 S62
def L63_0:bG:=bH "ϠƙώƸaW$QƙҬƸaWϞη&2η!δҭ"
def FL63_0:=gLl L63_0
def S63:dZ:=eA ";ƙЋƙϨ;ƙҒ" [.YR L63_0]
def C63:=cYy3 63 S63
def S67:lC:=mf "ДϏǈ+J"
def C67:=cYy1 67 S67
def S68:cd:=cq "%ȁұѕvJ"
def C68:=cYy2 68 S68
def S70:lC:=mf "%Ȃ+Б÷*ÁøӞ!´÷ϋÁøӞ=ȃAÁΨƠHǡђHǤΨƠHǢHǡHiΨǫϣǢHǯΨЉǬϣiΨǬHЉiHǫΨƠϚHǬHǳΨǥϣǦHǡΨǬHǳϚѴǦHǩHǬϚΨǳϣǦђΨƠHǦHЉǲΨǷHǡHǲHǤΨƠHǧϚHǴΨƠHǩHǦѴǩђϣǩΨǮHǴϣǬΨǥHǴϣǭΨЉǤHǵHǬΨǥϣǭHǯΨǶϚϣǮΨǥHǴϣǮΨЉǴϣǯΨǲϣǰHǵΨǢϣǳϚΨiHǲϚHǴΨǳϣǳϚΨǴϣǴHǨΨǥђϣǴΨǲHǵϚѴǵHǳϚӞÌHǶHǡHǲӞ$Пξ"
def C70:=cYy1 70 S70
def S83:cd:=cq "?PһDrόd%ǌαТўϓ·ь!fǏр0P=ƠαПξ"
def C83:=cYy2 83 S83
def K99_0:bG:=bH "¯ςƋеȳЌшC&Ɗ]&кҫ!Υ,Υ5Υ*ҰҺZЈτ"
def L99_0:bG:=bH "Ж5шQȳЈς5ƛӑ?Ȫӈ6ȧ2ƛόδ!+%ȘAk,$ϰCF5]ҳ65+ѥѾ!вσ,ϞȪΩѐȡβύ6.2ȪϪѐȡβϫ072ȪInѐȡβц(B?ȪѮёȨ%Ȣ<1ҷϰеȳл4&C§5]§:»ҫ!hI»3I»[+ÄÔ¤?ȪI§ёȨ%Ȣ<Bдѯ:µФ®X«Ӛµ3м?ȪIµёȨ%Ȣ<B7$b.:ºФ®n¤R:º3'ҰҺЌθ^" [.YGG K99_0]
def FL99_0:=gLl L99_0
def S99:jH:=kE "pʦ'ѣ!М&²(ҍȠ+;ȳϡӎ7ѱLϝѠ" [.YR L99_0]
def C99:=cYy4 99 S99
def L102_0:bG:=bH "ΦҨЦΣGΪЦϵΥΪпбӏC.ϳ.<ϖҏϐ^"
def FL102_0:=gLl L102_0
def S102:cd:=cq "Φ$ΦϨѦѩE" [.YR L102_0]
def C102:=cYy2 102 S102
def S106:cd:=cq "~ÙaU2ǶγѵЩѺǶw°ϻĆƸ$,%ȧЏȨ£<ѰϺЩ2ʀҸ%Ȫ+%ƭЏƱιJ"
def C106:=cZz2 106 S106
def L109_0:bG:=bH "ΰxϯ@aϋϻÎxοÅ¹ӈÅ%ȬЏȭЎόЇ8,C1Ё1ѢҶE"
def FL109_0:=gLl L109_0
def S109:lC:=mf ";x$ÑѷƔl83;x!ґ&ӓ" [.YR L109_0]
def C109:=cYy1 109 S109
def S114:cd:=cq "%ȸұѕvJ"
def C114:=cYy2 114 S114
def S119:jH:=kE "2ɉϞҐ2Ƹ.2>7%ǸV)Йϼ"
def C119:=cZz4 119 S119
def S122:cd:=cq "?ǈѭ?ǈγҝίǈч*fǈҙ*ψбϮǈЩ(>fǈϺ(>=ǻҮǼιξ"
def C122:=cYy2 122 S122
def S126:cd:=cq "?Ʌѭ?ɅγҝίɅч>fɅҙ>=ǻҮǼιξ"
def C126:=cYy2 126 S126
def L133_0:bG:=bH "ӧЊϯSa3ϞK$нВ6Y%ȅӟFЁҳҶ^"
def FL133_0:=gLl L133_0
def S133:cd:=cq "κπϾK!N´ÀvάKЛ´ãϩƓ_Ҕ2Kҍɂ+ӆ3!ѕ'πίKRϷ¦tЀÜ'дάK&yиXy҂ЕάK)ΪиuΪ҂бάK.ОиnО҂бάK1Ш¦MӕK¸Ш¦MЀÜ'Ϋ_ϓ·K«=Ƀ+ϬҔe¸ϷϜѻ§ϱ" [.YR L133_0]
def C133:=cYy2 133 S133
def L138_0:bG:=bH "ΰDϯЮ?Pοзrόd%ǌαТ¯!rϺ0PД!%ȊαТ¯!r9udД!gǏϹ!ѨpDϙDI»[$¬ϊÐЁÐ:ºNѡ:º4'¥&C¸Ё¸:¤Nѡ:¤4ϧCRЁӢNѡӗ4ϧ¢(³ÈAЈшфӃ^"
def FL138_0:=gLl L138_0
def S138:cd:=cq "ыНыЛӰgхτыЛтPаИ(ÞUы1зϛϡрϱVҟӂ&6Z" [.YR L138_0]
def C138:=cYy2 138 S138
def L155_0:bG:=bH "ΰʢϯȭеȭΣϊӛV!Ϣϴϐm"
def L155_1:bG:=bH "Ϡʢώȭ;ȭϊ)UѳϻÚ*ÁΨǬϚђѴЉǵHǴѴЉǦϣǲÌHǡђHǧϚ~Ûϊ7ϗ7Lѓ)єϦмC.ϗҕϖ!ѧsм%ɒAâϕ;ʢΣґ!οέ" [.YR L155_0]
def FL155_0:=gLl L155_0
def FL155_1:=gLl L155_1
def S155:lC:=mf ";ʢϡπѠ" [.YR L155_1]
def C155:=cYy1 155 S155
def L158_0:bG:=bH "ΰʤϯƙеƙΣϊӛV!Ϣϴϐm"
def L158_1:bG:=bH "Ϡʤώƙ;ƙϊ)UѳϻÚ*ÁΨǬϚђѴЉǵHǴѴЉǦϣǲÌHǡђHǧϚ~Ûϊ7ϗ7Lѓ)єϦмC.ϗҕϖ!ѧsм%ɔAâϕ;ʤΣґ!οέ" [.YR L158_0]
def FL158_0:=gLl L158_0
def FL158_1:=gLl L158_1
def S158:lC:=mf ";ʤϡπѠ" [.YR L158_1]
def C158:=cYy1 158 S158
def S164:cd:=cq "©ȟ9φrμr)ҝJ"
def C164:=cYy2 164 S164
def S170:lC:=mf "lρɡЎК"
def C170(a0:AV):aa pg 170 [a0]=S170 (aa pg) ae a0:=cZ
def S179:lC:=mf "2jϏǴ+үг"
def C179:=cYy1 179 S179
def L180_0:bG:=bH "ΰxэ@δҲ"
def FL180_0:=gLl L180_0
def S180:cd:=cq ";xҜ" [.YR L180_0]
def C180:=cYy2 180 S180
def S181:cd:=cq "ϔμ2*&ӔJ"
def C181:=cYy2 181 S181
def S188:dZ:=eA "?ʉ9Н?ʉ9һMzɬ+ѥѾ.вw?ʉҸ(>zɭ+2jRp>ϙ>ΫgʉѣRМ1²Ѓ¢'Ҽѽ"
def C188:=cYy3 188 S188
def L195_0:bG:=bH "ΰMϯ*%ǆ+λӉ$°0´ÉВ'EѶ±ϿSsУM´ïЍ7'YåMw*´Ã*7$_Õ&қ϶τ_ҿFЁҳN+ΧmШΦ$њ5J"
def K195_0:Au:=D4 "¯IqҠΪ%ǆ+Jҋ`8ƏҠΪ%ǆ+Ӊ$±ϿSGN*ψϋθѶ°ϿSΥN*=ǆ+_Í&қ^϶ϮSϖϷ¦tЀӡ3ξҋ`ѫҠШΦѻΣϱl^" [.YR L195_0]
def FL195_0:=gLl L195_0
def S195:lC:=mf "eНщveһ'ѕvίK)y´ӡćξщϟeһ'ΤvϾK)ЧϟξҧƐeһ'ΤϟϾK)Чϩ(άK.Чϩ4άK1Чϩ5ξϸκ!уж<ѱΫκ&8Ƒѯ<Щҷκ)8ƒя)<Ҹдκ.8Ǝя.<Ϻ1$κ18Wb1<Ѱ7$" [.YG K195_0]
def C195:=cYy1 195 S195
def L198_0:bG:=bH "ΰƩэǥδҲ"
def FL198_0:=gLl L198_0
def S198:cd:=cq ";ƩҜ" [.YR L198_0]
def C198:=cYy2 198 S198
def L207_0:bG:=bH "ΰMэ*щ*ѝϐG'C&Ё&кҶҹ"
def FL207_0:=gLl L207_0
def S207:cd:=cq "ΦҜ" [.YR L207_0]
theorem C207(a0 a1:AV):aa pg 207 [a0,a1]=aF (S207 (aa pg) ae (cl ai a0) (cl ai a1)):=cY
def L231_0:bG:=bH "ӣЊώSa3Ϟʉϵ2K!%Ыϖwp>ϙ>ϦW$¬ϊӱУѡӗ,[¥&%ɴ¥с!*ϧњ4ҽ3Ӡ³с.*ϧlҾϧ"
def FL231_0:=gLl L231_0
def S231:dZ:=eA "e&ШΦTK.ϷϜ$κΫίKFШ=ɪ+_ҴeRШΦ$њ5ҽ3enШ%ɳ+тƾϹу²ЃӠÞ|e¾ϷϜϡ¾9§wLїҟËZѤЛѬ" [.YR L231_0]
def C231:=cZz3 231 S231
def K233_0:Au:=D4 "c϶ҵq¡ƿTSϢy?ƾѧygǾѣ!Ѩ²(k'pƿӇ~Ýƿ°дcРҵqªƿ$ҍɣ¥In'ϼ"
def K233_1:Au:=D4 "¨>I`϶¡ƾ$ϼ"
def S233:dZ:=eA "eЛҧƐЅγe.ҌІЫ.Ϋa4TjНΤvҴeXyΤϟϾKnЧϩ(άK«Чϩ4άK¸Чϩ5_ҽƎϸc¤А`¡ƠЋƠ$ÑÉvcµА`¡Ơ$QƠέ'cÊА`¡Ơ$ϻÎƠ$¹YÅÅcØА`ªƠ$&b¸Lä9Ĉ9¿FVїϝbҕµ9º9«EVїϝ?ʉγNѕvҽWc.Аφ¡xTʉрN¨xwζqDzȋЏɵЎ9uѕvҽWcnҵӄ¡ǁTʉ9§N¨ǁw©Ʌ`¡>$ÄĉeÊNҧƒЅ9ÊeÏҌІЫÏΫ¨>7¤ªƾ$!bFL§BїAϝb!Lu&їAϝ" [.YG K233_0,.YG K233_1]
def C233:=cZz3 233 S233
def S236:lC:=mf "Φ$Φ!ϻÎM&Å¹!¹г"
def C236:=cYy1 236 S236
def L11_0:bG:=bH "ϛҨ¨DΣЄrμ¨DϢϴrμп*&ϐτC7ϳ7<ѓӀϐ^"
def FL11_0:=gLl L11_0
def S11:cd:=cq "ҁϛϨѦѩE" [.YR L11_0]
def C11:=cYy2 11 S11
def L18_0:bG:=bH "јm(ƿ;ƿ$ӌϤ(Tǃο(ƿQƿ$ϴǾјҏ(ƿQƿ$k(ǾпǾ&ϐτCFϳF<ϭσUјΥNǀјεyǀ%SαίǃkУǁfǃӀ4ǁ=Ʒҩ"
def FL18_0:=gLl L18_0
def S18:cd:=cq "ј9φƦјγ6ƦѲƦwϾǃѱ(ƿ¦ƿӕǃϺ(ƿ¦ƿЀÜ'ΫάǃЩ0ƾfǃϺ0ƾ=ƵαϬҔѦҸϺE" [.YR L18_0]
def C18:=cYy2 18 S18
def L23_0:bG:=bH "?ƾςy>і$ϽϤ|БÃВ(ήϑ?ƾsy>Q>$k'ƾнЍF6є%DαCRЃChЁhVϪ6Ϫ0wlѧ"
def FL23_0:=gLl L23_0
def S23:cd:=cq "ґ!КYE" [.YR L23_0]
def C23:=cYy2 23 S23
def L43_0:bG:=bH "ϛҨ¨DΣЄrμ¨DϢϴrμѲ*Ϋϓ¶DѓєfǏѼ¶DΩ0Ω(fǏѼÂƨЪϬҿBϳB<РΩ0ϐ^"
def FL43_0:=gLl L43_0
def S43:cd:=cq "ҁϛϨѦѩE" [.YR L43_0]
def C43:=cYy2 43 S43
def S46:lC:=mf "lρǩЎК"
def C46(a0:AV):aa pg 46 [a0]=S46 (aa pg) ae a0:=cZ
def S49:cd:=cq "?Ƽѭ?ƼγdzƤα?Ƽч*?Ƽҙ*zƤαpƠ(Ϲ)ѨzǬ+J"
def C49:=cYy2 49 S49
def L51_0:bG:=bH "Ж3ς,QǁЌЈɅъ2ɉϵ2ɉϢc$ҵӄ¡ǁTɅϺd?ɅѰ0>%ǵ+gɅϹ&ѨpǁӇ~Ýǁ°1$cXҵӄªǁ$)C»3]»:µ63ѡ:µ[5£2ɉϕ2ɉѝ%Ƕ¥ρǷ£кy¥οωc.ҵ`ªƾ$.cFҵφªƦ$F2ɉц0c$Ӳ¡ǃИ5Ҽ5£"
def FL51_0:=gLl L51_0
def S51:um:=Cf "%ǭ+џgǃаИ5Ҽ5£Ͻ'FEÕЀÉ'B8î_ϓ=ǯA).ПϑgǃаY¢5Ҽ5£тɋѣ.МR²(h~àæ$aU2ɉ9ϏǰχhaU2ɉѱ2'ό%Ǳӳ¸ӆW!ўЗǃа84¢5Ҽ5£2>9ÐіTη)νҁѲ'Ϋϓ·>9Ï=ǲЏǳιϑgǃаѫ¢5Ҽ5£;ǁÊҎ9Ø9¾9«рL¿έELїϝ<ϝZ" [.YR L51_0]
def C51(a0 a1 a2 a3 a4 a5 a6:AV):aa pg 51 [a0,a1,a2,a3,a4,a5,a6]=aF (S51 (aa pg) ae (cl ai a0) (cl ai a1) (cl ai a2) (cl ai a3) (cl ai a4) (cl ai a5) (cl ai a6)):=cY
def S52:cd:=cq "јК'ǀјγ'ǀ%ǹҮǺιјѱ4ǁјҸ4ǁ%ǽҮǾιјϺ6Ʀјр6ƦΤƦwίǃҗ0ƾfǃ9X0ƾ=ǼҪǃ9h(ƿfǃ9u(ƿ=ǿα_Гè¥BГè¥7J"
def C52:=cYy2 52 S52
def L65_0:bG:=bH "?PЯзҁϽϤ4$БÃВВ6ϑ?Pѧз¨D$k4rѼнЍB6σ'нЍR0Y%ǁ<ЙCX|Cuϗu:nNαls'"
def FL65_0:=gLl L65_0
def S65:dZ:=eA "ӌҐYҚ'!YJҎ!&КYҖ" [.YR L65_0]
def C65:=cYy3 65 S65
def S73:lC:=mf "2KϏȅҤWJ"
def C73:=cYy1 73 S73
def L74_0:bG:=bH "ӣЊώSa3ϞKϏǉ+Ӎ7ϗ7:FУ+ϜmΤ|ѝJ"
def FL74_0:=gLl L74_0
def S74:cd:=cq "Ϝϡ!ЙҖ" [.YR L74_0]
def C74:=cYy2 74 S74
def K78_0:Au:=D4 "2P϶¢ӘE"
def S78:dZ:=eA "c$Сφ©@q¡DTK7Ϊ%ǌαТўЗх8WϸenNҧƒe«ҌІ><«¸$ТӋπgх)ДϞьh%ƠαλЗхѫbX<9nҟb!<ѱҟ" [.YG K78_0]
def C78:=cZz3 78 S78
def L79_0:bG:=bH "ϠiώPъДTǥϢ0iQi$s4PzƠЪλЗхѫCBϗB:RУβΩ,Ω3cmСq¡|?ǥεy'ÆòЕcҀСqª|&?ǥΩ0(P¢ӘE"
def FL79_0:=gLl L79_0
def S79:dZ:=eA "2K&%ȇαӆ,!ўЗх8W?ǥ9һi;iTKhϷϜ$п'ΫgхѫeuϷ%ǐ<Xu$ωџgх&;i!Ҏ¸9hΫ<їZ" [.YR L79_0]
def C79:=cZz3 79 S79
def L80_0:bG:=bH "Ж,ЌЊςғ,Sa3ϞKϏ><ήεUТӋπфZ!Д$piϙiύЃCX,]XLϫ6ϫ0!ϫ'Ӓu4ϐҥЯE"
def FL80_0:=gLl L80_0
def S80:dZ:=eA "ϜӴ!&Z)χE" [.YR L80_0]
def C80:=cZz3 80 S80
def S89:lC:=mf "©ȟ9φrμJ"
def C89:=cYy1 89 S89
def S90:cd:=cq "©ȟ9φrѼ©ȟѱ6rѼ%ƻЪίȟҙSfȟѰ0S=Ƽҩ"
def C90:=cYy2 90 S90
def S91:lC:=mf "ϒμJ"
def C91:=cYy1 91 S91
def S92:cd:=cq "ϒμϒ&ҝίη)04Ҟ104ψ4wϮη.νҞ7ν=ȖҪη1'PҞF'P=ƻҪη74'ҞB4'ψЕϮηF,SҞR,S=Ƽҩ"
def C92:=cYy2 92 S92
def K98_0:bG:=bH "¯ςƋеƙЌшC&Ɗ]&кҫ!Υ,Υ5Υ*ҰҺZЈτ"
def L98_0:bG:=bH "Ж5шQƙЈς5ƸaWTȦӈ6Ȥ2η!δ!+%ȘAk,$ϰCF5]ҳ65+ѥѾ!вσ,ϞȦΩѐȟβύ6.2ȦϪѐȟβϫ072ȦInѐȟβц(B?ȦѮёǮ%ƿ<1ҷϰеƙл4&C§5]§:»ҫ!hI»3I»[+ÄÔ¤?ȦI§ёǮ%ƿ<Bдѯ:µФ®X«Ӛµ3м?ȦIµёǮ%ƿ<B7$b.:ºФ®n¤R:º3'ҰҺЌθ^" [.YGG K98_0]
def FL98_0:=gLl L98_0
def S98:jH:=kE "pʤ'ѣ!М&²(ҍȞ+;ƙϡӎ7ѱLϝѠ" [.YR L98_0]
def C98:=cYy4 98 S98
def L101_0:bG:=bH "ϠDώЮ%ȣAορȤЎКѳфZτQȭή$ȟpȭϙȭkUCFϗFLϭ!σ(σм;ȭϕ;ȭΣѪфεU"
def FL101_0:=gLl L101_0
def S101:cd:=cq "ϛ!Ҏ!ZΫҖ" [.YR L101_0]
def C101:=cYy2 101 S101
def S110:dZ:=eA "2MόΦϞ>Щі$Ѳ'Ϋϓ·>Ѱ=ǲЏȮιϑgƾáӠӊҾϧYтɋĊ²(8î~àæ$aU%Ƕ¥ρȯ£VК9h9XҗωӠ³!өϧ!"
def C110:=cYy3 110 S110
def S112:cd:=cq "c$Аφ¡xϏȴЏȵЎЩJ"
def C112:=cZz2 112 S112
def S113:dZ:=eA "ӌ'πgƸХWӊҾW£τc$Аφ¡x$¨x$.ζӄƙ%ȶЏȷЎѰѳgƸХWӊҾW£τQƙwƸ¢WӊҾW£^"
def C113:=cZz3 113 S113
def S115:lC:=mf "2jϏǴ+үг"
def C115:=cYy1 115 S115
def L120_0:bG:=bH "Ж,ЌQDςғ,ЮrѭQ>Ϣε,ƾzȼ<с1Ɗѽw¢'³ϊF,]ҳФѡ:B34Ѥ!N£cmАљ¡|ҚϟcϖАљª|&?Ƹσ(,ІЫРсRƊѽ$a4$cϪ6Аљ¡|нϟcѮ6Аљª|&2jFϼ"
def K120_0:Au:=D4 "gʉаI`¢'³TƸG'νϛϡήϴε'!¼έӐ44ѤЛ£" [.YR L120_0]
def FL120_0:=gLl L120_0
def S120:jH:=kE "c$Аљ¡|ϽϩƼҽ3ϸϒB04ϰcFҵљ¡ǀ$cXАφ¡x$¨x$¸ζμϒ§d%ǵ¥µgǈѣ&М!²ЃpǀӇ~Ýǀ°R$cÐҵљªǀ$)b»L¿ÏØ9ÒVїϝb!LFBhҗVїϝ" [.YG K120_0]
def C120:=cZz4 120 S120
def L121_0:bG:=bH "ϠǀώǈӑQǀҬǈӑ2ǈγ2ǈόδҭ"
def FL121_0:=gLl L121_0
def S121:dZ:=eA ";ǀЋǀϨ;ǀҒ" [.YR L121_0]
def C121:=cYy3 121 S121
def L127_0:bG:=bH "ΰƿэǾQƿѝG'ǾпǾwӏӦ^"
def FL127_0:=gLl L127_0
def S127:cd:=cq ";ƿЋƿϨ;ƿ&ґ).έ" [.YR L127_0]
def C127:=cYy2 127 S127
def L128_0:bG:=bH "іҨQ>ΣЄƾQ>ϵΥ(ƾzƵӟ7ϳ7<ѓӀϐ^"
def FL128_0:=gLl L128_0
def S128:cd:=cq "іЋ>ϨѦѩE" [.YR L128_0]
def C128:=cYy2 128 S128
def L129_0:bG:=bH "ΰiэPδҲ"
def FL129_0:=gLl L129_0
def S129:cd:=cq ";iҜ" [.YR L129_0]
def C129:=cYy2 129 S129
def S130:lC:=mf "Τϋθϓçùú*π=Ƚ+Ϭϓ¦*&´ѷƔ_Ҕ%ȾA)ρȿι;*.ѪJ"
def C130:=cYy1 130 S130
def L132_0:bG:=bH "ϠDώЮrѭzǆ+λӉ$°0´ÉЍ74EѶ±ϿǏЩdfPσ0з´ïЍR4Y¶DwfǏμ´Ã*д_Õ&қ϶τάǏϺ0P´ïЍh6YÂȄαϬҿhϗh:XӪ"
def FL132_0:=gLl L132_0
def S132:cd:=cq "κπϾь!N´ÀvάьЛ´ãϩ'άь)з¦DЀѷ5Ӝ$°Ͽь.N҂ϩ(Ѷ±Ͽь1з¦DЀÉv_Õ&қ϶τ_ҔыFзϛϡhҗѠ" [.YR L132_0]
def C132:=cYy2 132 S132
def L151_0:bG:=bH "ΰʟϯMвΣϊӛV!Ϣϴϐm"
def L151_1:bG:=bH "ϠʟώMΦϊ)UѳϻÚ*ÁΨǬϚђѴЉǵHǴѴЉǦϣǲÌHǡђHǧϚ~Ûϊ7ϗ7Lѓ)єϦмC.ϗҕϖ!ѧsм%ɎAâϕ;ʟΣґ!οέ" [.YR L151_0]
def FL151_0:=gLl L151_0
def FL151_1:=gLl L151_1
def S151:lC:=mf ";ʟϡπѠ" [.YR L151_1]
def C151:=cYy1 151 S151
def S152:cd:=cq "%ɏұѕvJ"
theorem C152(a0 a1:AV):aa pg 152 [a0,a1]=aF (S152 (aa pg) ae (cl ai a0) (cl ai a1)):=cY
def S153:dZ:=eA "%ɐA!ρɑ£AКγѳlZҚϟϻÎM)¹!¹$ÅJ"
def C153:=cYy3 153 S153
def S156:dZ:=eA "%ȣA!ρɓ£AКγѳlZҚϟϻÎȭ)¹!¹$ÅJ"
def C156:=cYy3 156 S156
def L163_0:bG:=bH "ΰȭэȟδҲ"
def FL163_0:=gLl L163_0
def S163:cd:=cq ";ȭҜ" [.YR L163_0]
def C163:=cYy2 163 S163
def S173:cd:=cq "ϔμζ&ҝJ"
def C173:=cYy2 173 S173
def S183:cd:=cq "ϒμ2*&ӔJ"
def C183:=cYy2 183 S183
def L184_0:bG:=bH "ΰ>эƾδҲ"
def FL184_0:=gLl L184_0
def S184:cd:=cq "іҜ" [.YR L184_0]
def C184:=cYy2 184 S184
def K194_0:Au:=D4 "¯IqҠΪ¬ИѸÈ®G*GƊ!:&WѽҡYҋ`8ƐҠy¬ИѸÈ¼G*!:&ƋϧҡYҋ`8Ɗ¢Ѹс$*ӖҡYҋ`8WҠΪ¬ИѸÈ®G*GƊ!:&Wѽҡуҋ`8Ƌ¢Ѹс$*Ӗҡ8'ҋ`ѫҠШ¬TSGУMΦИѸс.*4A)εƎҡ!ҋ`8ƏҠΪΧςN*¬!¬!¢ѸÈLε*εƊ)&AεƍεƎҡҹ¢Ѹс$*Ӗҡу"
def K194_1:Au:=D4 "¯IqҠΪ¬ИѸÈ®G*GƊ!:&WѽҡEϸΤғ08ƒж®ΣGU:&'W£Τϲ08Ǝb&®ӝUк'W£" [.YG K194_0]
def K194_2:Au:=D4 "¯IqҠy¬ИѸÈ¼G*!:&ƋϧҡEϸΤғ0уж®ΣGU:&'W£Τϲ08Ƒb&®ӝUк'W£" [.YG K194_1]
def S194:lC:=mf "eНe!ϷgSϹ!²,ИѸTK.NϸκπжLѰӓLEθθZËZѤ)6Ӗκ&]&Lр)έLEθθZËZѤ.6Ӗ" [.YG K194_2]
def C194:=cYy1 194 S194
def S216:dZ:=eA "?Ȫ!6ȧ2ƛό2*.~ë&¥!Τϋ!J"
def C216:=cYy3 216 S216
def S227:lC:=mf "gƾϹEѨϼ"
def C227:=cYy1 227 S227
def S228:lC:=mf "ЗƾϹYМYϼgƾаYϼ"
def C228:=cYy1 228 S228
def S229:dZ:=eA "ҧ[υ!Nυ)NѪίj.N҂ϩ(_Ҵυ7yυByѪ%ɤҢυ!NΤvίj.Nψv_ҴҦ.8'υ1yυFyҚЕ%ɣҢҦ.84υ1yυFyнЕ%ɣҢҦ.8,υ1yυFyÆċЕ%ɣҢυ1yυFyϽЕ%ɤҢ"
def C229:=cZz3 229 S229
def S230:dZ:=eA "Ѕό2KҍЫЙa4TjНΤϟҴυ)yΤϟJ"
def C230:=cZz3 230 S230
end
end Go.Proofs.YtkidiopjcgeifaaGreat
