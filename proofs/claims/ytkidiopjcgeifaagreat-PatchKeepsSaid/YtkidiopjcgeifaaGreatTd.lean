/- What the functions compute, part 4. Conditions: bounds. -/
import Derived.Test.YtkidiopjcgeifaaGreatTc
import Derived.Shelf.SlGeneric
import Derived.Ground.SlsfProg
import Derived.Ground.Names8Prog
import Derived.Ground.NamesProg
import Derived.Shelf.Lays
import Derived.Shelf.Spec.SlicesGrow
import Derived.Shelf.Strings.Search3
import Derived.Shelf.SlSortCmp.NoneTotal
import Derived.Tactics
import Derived.Tactics2
import Derived.Defers
import Derived.Recover
set_option linter.defProp false
set_option linter.unusedSimpArgs false
set_option linter.unusedVariables false
namespace Go.Proofs.YtkidiopjcgeifaaGreat
open Go Go.Av Go.Av.Ap
set_option maxRecDepth 100000
set_option maxHeartbeats 4000000
noncomputable section
def S14:jH:=kE "ϥϏƍχҍƧχ1ϥ.%ƍχ7%ƧχBϽ')EÕЀÀ'πϑκ1&JҦhEl^ҦhYϔBν¨D$7rѼϔuν¨D$7rѼzƨAҷίϘ¸'tåt$nSfϘ§'tåt$uSÂƩЪξҦhуϔBѹQЭ7ƸϔXѹQЭ1ƸzƪA&г©ϘB3ҘφD©ϘX3ҘφD%ƫЪГ½Ϙn3ћ`t½Ϙ¤3ћ`t=ƬЪ_Г½Ϙ«3ћqt½Ϙ¾3ћqt=ƬЪξ"
def C14:=cYy4 14 S14
def S16:D7:=OR "%Ʋ+ωџgǃаИ5Ҽ5£%ƳL)!ӎ<7FB¢5Ҽ5£"
def C16(a0 a1 a2 a3 a4 a5:AV):aa pg 16 [a0,a1,a2,a3,a4,a5]=aF (S16 (aa pg) ae (cl ai a0) (cl ai a1) (cl ai a2) (cl ai a3) (cl ai a4) (cl ai a5)):=cY
def S25:lC:=mf "ДϏǁβ8ƨ83њƨJ"
def C25:=cYy1 25 S25
def L28_0:vw:=zP "Ӂ[G3QƩG,G[ǥa,Tǥ9qP%ǃ+λϾǥчi=ǄЏǅι_ЇҥČτCB[]B:R6[+cΣС`¡ǛTƫҏdѺǛw±ТўϰcϪ6С`¡ǛTƫц0d2ƫѮ0~ÓǛЙC¾ϗ¤VI§6I§(I§|CXϗhVϫ6ϫ(ϫ|"
def L28_1:bG:=bH "ΰƤϯƫa(Tƫ9`Ʃ;Ʃ$ÇÖ.¼ϖγ:1y<ϱфm^" [.YGR L28_0]
def FL28_0(call:CC)(a:RR):FW (L28_0 call ae a):=eH
def FL28_1:=gLl L28_1
def S28:cd:=cq "ϥ$~ÙтǝϹ!Ѩ~àæЋƤ1ґ!7έ" [.YR L28_1]
def C28:=cZz2 28 S28
def K29_0:Au:=D4 "©@϶3ҘφD%ǇҤ5Г½@ο3ћ`t=Ǌχѧ_Г½@ή3ћqt=Ǌχk0ξ"
def L29_0:bG:=bH "ϠƙώƸaWTημѺȊεU°Ͼη&d=ǆ+Пάη)ν=ǇҤ3Пάη.'P=ǈ+Пάη1,S=ǉ+Пάη74'´ðϩƏ҂v_ҔϒFd~ÓȊϪU^Cuϗu:nУ+ζmd%ǆ+λϾ@ή0M¦MЀѷWά@sң¦ƙЀѷxά@Ҁν=ǇҤ5Пά@ϦNtf@ϭν¦D$=ǊЪϬҔ©@ϭ3ҘφDϛT@Ϫ6νҁϸζцФ4λϰÑÉ'1Eӏb&<I¤61Eb&<I¤61)" [.YG K29_0]
def L29_1:bG:=bH "ϠMώ*ѺȊGU°ϓ=ǆ¥!ϬҔ~ÓȊϢ&^C1ϗ1ѢУ+~ÙζGң;ƙϡήЙҖ" [.YR L29_0]
def FL29_0:=gLl L29_0
def FL29_1:=gLl L29_1
def S29:lC:=mf "~ÙϔһMΦϡѱЙҖ" [.YR L29_1]
def C29:=cYy1 29 S29
def S32:cd:=cq "ыНыЛѪίь.з=ǒЏǓЎЩПξ"
def C32:=cYy2 32 S32
def L44_0:bG:=bH "ϜҨЊΣЄSЊϵΥ(SzƩӟ7ϳ7<ѓӀϐ^"
def FL44_0:=gLl L44_0
def S44:cd:=cq "Ϝ$ϜϨѦѩE" [.YR L44_0]
def C44:=cYy2 44 S44
def L54_0:bG:=bH ";ǀҨ¨ǀΣЄ?ǈμ¨ǀϢϴ?ǈμѲ*Ϋϓ¶ǀѓєfǈ`*¶ǀΩ0Ω(fǈ`*҂*Ϋ_ϓ¶ǀϭσ(fǈq>¶ǀύ0ύ(fǈq>ÂȀЪϬҿRϳR<ύ6ύ0ϐ^"
def FL54_0:=gLl L54_0
def S54:cd:=cq ";ǀЋǀϨѦѩE" [.YR L54_0]
def C54:=cYy2 54 S54
def L55_0:bG:=bH ";ǁҨ¨ǁΣЄ?Ʌμ¨ǁϢϴ?ɅμѲ*Ϋϓ¶ǁѓєfɅ`>¶ǁΩ0Ω(fɅ`>ÂȀЪϬҿBϳB<РΩ0ϐ^"
def FL55_0:=gLl L55_0
def S55:cd:=cq ";ǁЋǁϨѦѩE" [.YR L55_0]
def C55:=cYy2 55 S55
def L64_0:bG:=bH "?ǥm0i;i$ϽϤUБÀВ08*ϑ?ǥϖ0iQi$k0P%ƙ+ӍR0]RӒh6Tǥϖ0i;i$њ5ίǥϭ(P=ƙ+ξ"
def FL64_0:=gLl L64_0
def S64:lC:=mf "оA9έ" [.YR L64_0]
theorem C64(a0:AV):aa pg 64 [a0]=aF (S64 (aa pg) ae (cl ai a0)):=cY
def L66_0:bG:=bH "ΧЯϷϜ$ϽϤ4$БÃВВ6ϑΧѧӅ$k4SнЍF6Ϧ'нЍB0Y%ǂ<ЙCh|CXϗX:uNαls'"
def FL66_0:=gLl L66_0
def S66:dZ:=eA "ϽҐYϾK!Ш¦MЀѷƊϑҚ')YJҎ).γYҖ" [.YR L66_0]
def C66:=cYy3 66 S66
def S69:lC:=mf "ДϏǃ+үг"
def C69:=cYy1 69 S69
def S72:lC:=mf "ДϏȄҤ4J"
def C72:=cYy1 72 S72
def S82:cd:=cq "%ȋұѕvJ"
def C82:=cYy2 82 S82
def S86:lC:=mf "Ѳϋг"
def C86:=cYy1 86 S86
def S93:lC:=mf "lÁÌHǭHЉǶϚ"
def C93:=cYy1 93 S93
def K96_0:bG:=bH "¯ςƋеȭЌшC&Ɗ]&кҫ!Υ,Υ5Υ*ҰҺZЈτ"
def L96_0:bG:=bH "Ж5шQȭЈς5ȟa*Tȣӈ6Ƞ2ȟόδ!+%ȘAk,$ϰCF5]ҳ65+ѥѾ!вσ,ϞȣΩѐȜβύ6.2ȣϪѐȜβϫ072ȣInѐȜβц(B?ȣѮёȡ%ȝ<1ҷϰеȭл4&C§5]§:»ҫ!hI»3I»[+ÄÔ¤?ȣI§ёȡ%ȝ<Bдѯ:µФ®X«Ӛµ3м?ȣIµёȡ%ȝ<B7$b.:ºФ®n¤R:º3'ҰҺЌθ^" [.YGG K96_0]
def FL96_0:=gLl L96_0
def S96:jH:=kE "pʢ'ѣ!М&²(ҍț+;ȭϡӎ7ѱLϝѠ" [.YR L96_0]
def C96:=cYy4 96 S96
def L97_0:bG:=bH "ϠDώЮ2Ǐ9T@εNtЊ$s4SgȟϹ&ѨpȭϙȭσUCӵRLύ6!ύ(ύ'Ұϕ"
def FL97_0:=gLl L97_0
def S97:lC:=mf "ϔqDϛϡγZѠ" [.YR L97_0]
def C97:=cYy1 97 S97
def S100:lC:=mf "ϔ$,4λЇZϔ&3ƛpȳѾг"
def C100:=cYy1 100 S100
def L123_0:bG:=bH "Ϡ>ώƾa4$Q>Ҭƾa4Ϟj&2j!δҭ"
def FL123_0:=gLl L123_0
def S123:dZ:=eA "іЋ>ϨіҒ" [.YR L123_0]
def C123:=cYy3 123 S123
def S124:cd:=cq "υНυЛѪίj)yfj1ЧЕϮj.(Mfj7(M=ƽҪj1'>fjF'>=ǻҮǼιξ"
def C124:=cYy2 124 S124
def L125_0:bG:=bH "ϠǁώɅъQǁҬɅъ2Ʌγ2Ʌόδҭ"
def FL125_0:=gLl L125_0
def S125:dZ:=eA ";ǁЋǁϨ;ǁҒ" [.YR L125_0]
def C125:=cYy3 125 S125
def L135_0:bG:=bH "Ж(ϕQDmЯЮr9Ѽpiϙisϋ¬ϊFϳF®ϭσU:B'3Ë&:BƊѽ¢,³с!5ѿөѿ^"
def FL135_0:=gLl L135_0
def S135:cd:=cq "e!Ощϋθc!Сφ©@ӄ¡ƙϏȶЏɅЎϺѳgǥХ,ӊҾѿτc7Сφ©@ӄ¡ЭQЭ.ƸaWTηљPϒ!4'тǥč²Ӷ²|¢,ÞUϒ.νϛϡϱθLZҟE¼ӂ&6ZѤ&(ѽc!С`¡ǛTK1ОѺǛw±Т?ƫ9`Ʃ%ɆЏɇЎ9Xү)ÕЀÀ'π_ϓĎn½ǝφ½@`öMӕK§ОÂȘαПϑgǥХ,ӊҾѿτ?ƫҙƩQƩ$.ǥ¢,ӊҾѿ^" [.YR L135_0]
def C135:=cZz2 135 S135
def L139_0:bG:=bH "ΰDэǏδҲ"
def FL139_0:=gLl L139_0
def S139:cd:=cq "ϛҜ" [.YR L139_0]
def C139:=cYy2 139 S139
def S150:cd:=cq "%ƹβ!ρɍιJ"
def C150:=cYy2 150 S150
def L154_0:bG:=bH "ϠMώ*ЦΣG4*δϵӟ1ϗ1ѢӪ"
def FL154_0:=gLl L154_0
def S154:dZ:=eA "Φ$ΦϨΦҒ" [.YR L154_0]
def C154:=cYy3 154 S154
def L157_0:bG:=bH "ϠȭώȟaϋQȭҬȟaϋ2ȟγ2ȟόδҭ"
def FL157_0:=gLl L157_0
def S157:dZ:=eA ";ȭЋȭϨ;ȭҒ" [.YR L157_0]
def C157:=cYy3 157 S157
def S161:dZ:=eA "%ɗA!ρɘ£AКγѳlZҚϟϻÎȳ)¹!¹$ÅJ"
def C161:=cYy3 161 S161
def K176_0:Au:=D4 "ЅI`2SЯ%ɩ<Σwϼ"
def L176_0:vw:=zP "Ñãϲ'E?ʉѝ0MЦ$ӈ*ΧϴΪщб?ʉҏ(>Q>$k'ƾϼнЍ1Ё1ѢNѡѢ4ϧϻÚƦ8W~Û$b&ӐNӐ4ϧ"
def K176_1:bG:=bH "¯ЌЅϕΧЄҌSΧϴNΤϩ*%ɦ<Ҁ.&щ4$!ΧєNΤϩ*%ɤҢЅӀΧσ(Ӆ$YІɦ<ύ6ΫzɤҢю'8ƊЅϕΧЄҌІɦ<ήΫλzɤҢю'8ƋЅϕΧЄҌІɦ<ήΫϰЅҏΧk(Ӆ$YІЫϭΫϼЅҏΧk(Ӆ$уІЫϭΫϼю'8WЅϕΧЄΪЅϵΧϴҌSΧk(Ӆ$YІЫϭ.&zȼ<F7ϏЫύ6$&ϼю'ѫЅϕ2SЄ%ɧ<οwϼю'8ƎЅϕΧЄҌІЫήΫa4TjqMΧєΪ%ɏαυ)NΤϩ(БãҐE_ҴυF'>Q>$1ƾϼю'8ƏЅϕ2SЄ%ɨ<οwϼb$:!N:!,ϧ"
def K176_2:bG:=bH "¯ЌΧЯNЅѝΧΥ(ҌSЅҏΧk(Ӆ$YІЫϭ1ҍЫР)!%ɥ<BwϼÄÔйϲ'85жкУѡк,ϧΤϤ'8*b&ӐУѡӐ,ϧ" [.YGG K176_1]
def FL176_0(call:CC)(a:RR):FW (L176_0 call ae a):=eH
def S176:dZ:=eA "c$Аq¡|ÆÉvҽƐc1Аq¡|нϟcRАqª|&e«N%ɢ+Ѳϩď(Ӊ$±0ψ'!ҹѶ°ϿK§Ϸ¦t$ψ'д_Í&қ^϶_ҴϸeºNщveßy%ɣҢщϟeßyΤvϾK¿Чϟ_ҴeÒyΤϟ%ɤҢҧ(?ʉ9º0MΦ$нϟÇĐҕÊ9¿9Ï$VїϝÄđ!κ!8'жLß9Ê9¿&LέҟѬκ&84ѯLÊ9¿9Ï)LέҟѬκ)8,я)L¿9Ï9ÒҕέҟѬκ.83яҕÏ9Ò9Ø1LέҟѬκ18[b1LÒ9Ø9Ē7LέҟѬ" [.YG K176_0,.YGR L176_0,.YGG K176_2]
def C176:=cZz3 176 S176
def S178:cd:=cq "?Ʌόdϔ!ҝίɅЩ0>¦>ӕϘ1ν¦D$ψ'ΫϮɅҙ>=ǲЏȳιПξ"
def C178:=cYy2 178 S178
def S185:cd:=cq "2'όщvӏυ!NΤvϾj)Nψϟϑυ.(MΦйvίjF'>¦>$ψvӜ$±ϿjBNψvѶ°ϿjRЧvӜ&±0қ^϶Ѷ°ϿjXЧϟ_Í.қ^϶ξυ.NѲϩ(Ͼj7y҂vάjF(M¦MӕjR'>¦>ЀÜ'ΫάjB(M¦MЀѷ5άjR(M=ɪ+ϬҔυh'>%ǲЏɫЎ9uүг"
def C185:=cYy2 185 S185
def S187:cd:=cq "λϰϻÚƦ&~Ûϐô£ќ£"
def C187:=cYy2 187 S187
def S189:lC:=mf "ѕ,$éêǡБÃ,!éêǺξ"
def C189:=cYy1 189 S189
def L190_0:bG:=bH ";*mϽϲЃГçùú*ӝ(çóϢ+ϑC.ϳ.<ϖҏϐϴ"
def FL190_0:=gLl L190_0
def S190:cd:=cq "оβπ" [.YR L190_0]
def C190:=cYy2 190 S190
def S197:cd:=cq "ϒμΧ&ΪӔJ"
def C197:=cYy2 197 S197
def S205:cd:=cq "rѭrγҝίǏчPfǏҙP=ƻҩ"
def C205:=cYy2 205 S205
def L208_0:bG:=bH "ΰMэ*δҲ"
def FL208_0:=gLl L208_0
def S208:cd:=cq "ΦҜ" [.YR L208_0]
def C208:=cYy2 208 S208
def S213:dZ:=eA "?Ȧ!6Ȥ2η!2*.~ë&¥!Τϋ!J"
def C213:=cYy3 213 S213
def L215_0:bG:=bH "ΰȳэƛδҲ"
def FL215_0:=gLl L215_0
def S215:cd:=cq ";ȳҜ" [.YR L215_0]
def C215:=cYy2 215 S215
def K226_0:Au:=D4 "¯϶lҹlӷ("
def K226_1:Au:=D4 "¯I`lуҋφ8Ƌl8'ϸΤғЬƍж+ΤϲЬƏb&+" [.YG K226_0]
def K226_2:Au:=D4 "¯I`lYϸΤғЬ'жAΣйϲЬ4ѯAοйϤЬ,я)AήйВЬ3я.AϖйЍ1Ь[я1AҀйЍ7Ь5я7AѓйЍFЬ*яFAϭйЍBЬWbBAР$" [.YG K226_1]
def K226_3:Au:=D4 "¯I`lEϸΤғЬƊжAΣйϲЬƎѯAοйϤЬƐя)AήйВЬƒb.Aϖ$" [.YG K226_2]
def S226:lC:=mf "ϸκπжЪκ&YѯAҷκ)уя)Aдκ.8Ƒb.A1$" [.YG K226_3]
def C226:=cYy1 226 S226
def L232_0:bG:=bH "Ж[ЈЊς,шSa3Ϟʉϵ2K!%Ыϖwp>ϙ>Ϧ4ϊB[]B:RУû!Ω,Ω3$:R5ϧ2Ƹә%ǸVΣGЃG4ϼ"
def K232_0:Au:=D4 "ΧIqΪ%Ǳ<mς|ӆW!Ӊ!±ϿSѧОψϋθѶ°Ͽηһ4_Í)қ^϶_ҽWΧΩ(ϷϜTη7νҁκΫҴΧѮ(ϷϜϡл6л0л'9uûZϱ:¾4ϧ" [.YR L232_0]
def FL232_0:=gLl L232_0
def S232:dZ:=eA "?ʉόNϸe.Опϋθe1О%ǰAдb)L1ϺѰ$Vїϝb!L)ЩҸ&Vїϝ" [.YG K232_0]
def C232:=cZz3 232 S232
def L234_0:bG:=bH "ΦӨUнϲ0YЦο$*ЦήϢ*ÑãбӏC10]1AҀϐ^"
def FL234_0:=gLl L234_0
def S234:lC:=mf "оχY" [.YR L234_0]
def C234:=cYy1 234 S234
def S235:cd:=cq "2jϞҐнϟ%ȹЪүг"
def C235:=cYy2 235 S235
def S237:lC:=mf "іЋ>!ϻÎ>&Å¹!¹г"
def C237:=cYy1 237 S237
def L244_0:bG:=bH "ΰ>ϯƾa4ϞjϏɴ+ϻē±Aϖϊ7Ё7V!ӀϦЃҚғ6YJ"
def FL244_0:=gLl L244_0
def S244:lC:=mf "υљ>іѻEϱ" [.YR L244_0]
def C244:=cYy1 244 S244
end
end Go.Proofs.YtkidiopjcgeifaaGreat
namespace Go.Proofs
open Go.Shelf
def acr:Go.Shelf.Ren:=⟨fun|6=>104|15=>85|14=>166|28=>148|29=>149|20=>217|21=>218|22=>219|23=>220|24=>221|25=>222|26=>223|27=>224|46=>240|47=>201|48=>202|49=>241|50=>242|57=>250|n=>n,fun|22=>57|24=>60|25=>120|3=>3|39=>153|0=>0|53=>238|55=>240|4=>4|46=>232|45=>231|50=>69|5=>5|9=>9|66=>281|70=>285|76=>310|77=>311|n=>n,fun|n=>n⟩
def abO:Go.Proofs.SlLaysF0.n6 Tryz.prog acr:={
 mixed:=BT
 f6:=⟨Tryz.f104.name,Vc,Tryz.func104.trans (acY some BT)⟩
 f14:=⟨Tryz.f166.name,Vc,Tryz.func166.trans (acY some BT)⟩
 f15:=Tryz.func85.trans (acY some BT)
 f20:=⟨Tryz.f217.name,Vc,Tryz.func217.trans (acY some BT)⟩
 f21:=⟨Tryz.f218.name,Vc,Tryz.func218.trans (acY some BT)⟩
 f22:=⟨Tryz.f219.name,Vc,Tryz.func219.trans (acY some BT)⟩
 f23:=⟨Tryz.f220.name,Vc,Tryz.func220.trans (acY some BT)⟩
 f24:=⟨Tryz.f221.name,Vc,Tryz.func221.trans (acY some BT)⟩
 f25:=⟨Tryz.f222.name,Vc,Tryz.func222.trans (acY some BT)⟩
 f26:=⟨Tryz.f223.name,Vc,Tryz.func223.trans (acY some BT)⟩
 f27:=⟨Tryz.f224.name,Vc,Tryz.func224.trans (acY some BT)⟩
 f28:=Tryz.func148.trans (acY some BT)
 f29:=Tryz.func149.trans (acY some BT)
 f46:=⟨Tryz.f240.name,Vc,Tryz.func240.trans (acY some BT)⟩
 f47:=Tryz.func201.trans (acY some BT)
 f48:=Tryz.func202.trans (acY some BT)
 f49:=⟨Tryz.f241.name,Vc,Tryz.func241.trans (acY some BT)⟩
 f50:=⟨Tryz.f242.name,Vc,Tryz.func242.trans (acY some BT)⟩
 f57:=⟨Tryz.f250.name,Vc,Tryz.func250.trans (acY some BT)⟩
 t0:=Tryz.underlying0
 a0:=Tryz.isAgg0
 z0:=Tryz.sizeOf0
 v0:=Tryz.zeroValue0
 t3:=Tryz.underlying3
 a3:=Tryz.isAgg3
 z3:=Tryz.sizeOf3
 v3:=Tryz.zeroValue3
 t4:=Tryz.underlying4
 a4:=Tryz.isAgg4
 z4:=Tryz.sizeOf4
 v4:=Tryz.zeroValue4
 t5:=Tryz.underlying5
 a5:=Tryz.isAgg5
 z5:=Tryz.sizeOf5
 v5:=Tryz.zeroValue5
 t9:=Tryz.underlying9
 a9:=Tryz.isAgg9
 z9:=Tryz.sizeOf9
 v9:=Tryz.zeroValue9
 t22:=Tryz.underlying57
 a22:=Tryz.isAgg57
 z22:=Tryz.sizeOf57
 v22:=Tryz.zeroValue57
 t25:=Tryz.underlying120
 a25:=Tryz.isAgg120
 z25:=Tryz.sizeOf120
 v25:=Tryz.zeroValue120
 t39:=Tryz.underlying153
 a39:=Tryz.isAgg153
 z39:=Tryz.sizeOf153
 v39:=Tryz.zeroValue153
 t45:=Tryz.underlying231
 a45:=Tryz.isAgg231
 z45:=Tryz.sizeOf231
 v45:=Tryz.zeroValue231
 t46:=Tryz.underlying232
 a46:=Tryz.isAgg232
 z46:=Tryz.sizeOf232
 v46:=Tryz.zeroValue232
 t50:=Tryz.underlying69
 a50:=Tryz.isAgg69
 z50:=Tryz.sizeOf69
 v50:=Tryz.zeroValue69
 t53:=Tryz.underlying238
 a53:=Tryz.isAgg238
 z53:=Tryz.sizeOf238
 v53:=Tryz.zeroValue238
 t55:=Tryz.underlying240
 a55:=Tryz.isAgg240
 z55:=Tryz.sizeOf240
 v55:=Tryz.zeroValue240
 t66:=Tryz.underlying281
 a66:=Tryz.isAgg281
 z66:=Tryz.sizeOf281
 v66:=Tryz.zeroValue281
 t70:=Tryz.underlying285
 a70:=Tryz.isAgg285
 z70:=Tryz.sizeOf285
 v70:=Tryz.zeroValue285
 t76:=Tryz.underlying310
 a76:=Tryz.isAgg310
 z76:=Tryz.sizeOf310
 v76:=Tryz.zeroValue310
 t77:=Tryz.underlying311
 a77:=Tryz.isAgg311
 z77:=Tryz.sizeOf311
 v77:=Tryz.zeroValue311 }
def acq:Go.Shelf.Ren:=⟨fun|6=>34|15=>85|14=>84|28=>148|29=>149|20=>140|21=>141|22=>142|23=>143|24=>144|25=>145|26=>146|27=>147|46=>200|47=>201|48=>202|49=>203|50=>204|57=>239|n=>n,fun|22=>41|24=>101|25=>104|3=>3|39=>153|0=>0|53=>238|55=>240|4=>4|46=>232|45=>231|50=>69|5=>5|9=>9|66=>281|70=>285|76=>310|77=>311|n=>n,fun|n=>n⟩
def abP:Go.Proofs.SlLaysF0.n6 Tryz.prog acq:={
 mixed:=BT
 f6:=⟨Tryz.f34.name,Vc,Tryz.func34.trans (acY some BT)⟩
 f14:=⟨Tryz.f84.name,Vc,Tryz.func84.trans (acY some BT)⟩
 f15:=Tryz.func85.trans (acY some BT)
 f20:=⟨Tryz.f140.name,Vc,Tryz.func140.trans (acY some BT)⟩
 f21:=⟨Tryz.f141.name,Vc,Tryz.func141.trans (acY some BT)⟩
 f22:=⟨Tryz.f142.name,Vc,Tryz.func142.trans (acY some BT)⟩
 f23:=⟨Tryz.f143.name,Vc,Tryz.func143.trans (acY some BT)⟩
 f24:=⟨Tryz.f144.name,Vc,Tryz.func144.trans (acY some BT)⟩
 f25:=⟨Tryz.f145.name,Vc,Tryz.func145.trans (acY some BT)⟩
 f26:=⟨Tryz.f146.name,Vc,Tryz.func146.trans (acY some BT)⟩
 f27:=⟨Tryz.f147.name,Vc,Tryz.func147.trans (acY some BT)⟩
 f28:=Tryz.func148.trans (acY some BT)
 f29:=Tryz.func149.trans (acY some BT)
 f46:=⟨Tryz.f200.name,Vc,Tryz.func200.trans (acY some BT)⟩
 f47:=Tryz.func201.trans (acY some BT)
 f48:=Tryz.func202.trans (acY some BT)
 f49:=⟨Tryz.f203.name,Vc,Tryz.func203.trans (acY some BT)⟩
 f50:=⟨Tryz.f204.name,Vc,Tryz.func204.trans (acY some BT)⟩
 f57:=⟨Tryz.f239.name,Vc,Tryz.func239.trans (acY some BT)⟩
 t0:=Tryz.underlying0
 a0:=Tryz.isAgg0
 z0:=Tryz.sizeOf0
 v0:=Tryz.zeroValue0
 t3:=Tryz.underlying3
 a3:=Tryz.isAgg3
 z3:=Tryz.sizeOf3
 v3:=Tryz.zeroValue3
 t4:=Tryz.underlying4
 a4:=Tryz.isAgg4
 z4:=Tryz.sizeOf4
 v4:=Tryz.zeroValue4
 t5:=Tryz.underlying5
 a5:=Tryz.isAgg5
 z5:=Tryz.sizeOf5
 v5:=Tryz.zeroValue5
 t9:=Tryz.underlying9
 a9:=Tryz.isAgg9
 z9:=Tryz.sizeOf9
 v9:=Tryz.zeroValue9
 t22:=Tryz.underlying41
 a22:=Tryz.isAgg41
 z22:=Tryz.sizeOf41
 v22:=Tryz.zeroValue41
 t25:=Tryz.underlying104
 a25:=Tryz.isAgg104
 z25:=Tryz.sizeOf104
 v25:=Tryz.zeroValue104
 t39:=Tryz.underlying153
 a39:=Tryz.isAgg153
 z39:=Tryz.sizeOf153
 v39:=Tryz.zeroValue153
 t45:=Tryz.underlying231
 a45:=Tryz.isAgg231
 z45:=Tryz.sizeOf231
 v45:=Tryz.zeroValue231
 t46:=Tryz.underlying232
 a46:=Tryz.isAgg232
 z46:=Tryz.sizeOf232
 v46:=Tryz.zeroValue232
 t50:=Tryz.underlying69
 a50:=Tryz.isAgg69
 z50:=Tryz.sizeOf69
 v50:=Tryz.zeroValue69
 t53:=Tryz.underlying238
 a53:=Tryz.isAgg238
 z53:=Tryz.sizeOf238
 v53:=Tryz.zeroValue238
 t55:=Tryz.underlying240
 a55:=Tryz.isAgg240
 z55:=Tryz.sizeOf240
 v55:=Tryz.zeroValue240
 t66:=Tryz.underlying281
 a66:=Tryz.isAgg281
 z66:=Tryz.sizeOf281
 v66:=Tryz.zeroValue281
 t70:=Tryz.underlying285
 a70:=Tryz.isAgg285
 z70:=Tryz.sizeOf285
 v70:=Tryz.zeroValue285
 t76:=Tryz.underlying310
 a76:=Tryz.isAgg310
 z76:=Tryz.sizeOf310
 v76:=Tryz.zeroValue310
 t77:=Tryz.underlying311
 a77:=Tryz.isAgg311
 z77:=Tryz.sizeOf311
 v77:=Tryz.zeroValue311 }
def acu:Go.Shelf.Ren:=⟨fun|144=>131|143=>193|219=>238|217=>246|225=>247|224=>248|267=>249|266=>251|314=>252|n=>n,fun|9=>9|4=>4|3=>3|5=>5|46=>153|146=>318|51=>238|n=>n,fun|1=>0|n=>n⟩
def acw:Go.Proofs.Lays.n144 Tryz.prog acu:={
 mixed:=BT
 f143:=Tryz.func193.trans (acY some BT)
 f144:=Tryz.func131.trans (acY some BT)
 f217:=Tryz.func246.trans (acY some BT)
 f219:=Tryz.func238.trans (acY some BT)
 f224:=Tryz.func248.trans (acY some BT)
 f225:=Tryz.func247.trans (acY some BT)
 f266:=Tryz.func251.trans (acY some BT)
 f267:=Tryz.func249.trans (acY some BT)
 f314:=Tryz.func252.trans (acY some BT)
 t3:=Tryz.underlying3
 a3:=Tryz.isAgg3
 z3:=Tryz.sizeOf3
 v3:=Tryz.zeroValue3
 t4:=Tryz.underlying4
 a4:=Tryz.isAgg4
 z4:=Tryz.sizeOf4
 v4:=Tryz.zeroValue4
 t5:=Tryz.underlying5
 a5:=Tryz.isAgg5
 z5:=Tryz.sizeOf5
 v5:=Tryz.zeroValue5
 t9:=Tryz.underlying9
 a9:=Tryz.isAgg9
 z9:=Tryz.sizeOf9
 v9:=Tryz.zeroValue9
 t46:=Tryz.underlying153
 a46:=Tryz.isAgg153
 z46:=Tryz.sizeOf153
 v46:=Tryz.zeroValue153
 t51:=Tryz.underlying238
 a51:=Tryz.isAgg238
 z51:=Tryz.sizeOf238
 v51:=Tryz.zeroValue238
 t146:=Tryz.underlying318
 a146:=Tryz.isAgg318
 z146:=Tryz.sizeOf318
 v146:=Tryz.zeroValue318
 g1:=by kernel_rfl }
def aco:Go.Shelf.Ren:=⟨fun|4=>206|n=>n,fun|22=>22|25=>9|3=>3|4=>4|9=>9|20=>20|0=>0|n=>n,fun|n=>n⟩
def acd:Go.Proofs.Lays8.n4 Tryz.prog aco:={
 mixed:=BT
 f4:=⟨Tryz.f206.name,Vc,Tryz.func206.trans (acY some BT)⟩
 t0:=Tryz.underlying0
 a0:=Tryz.isAgg0
 z0:=Tryz.sizeOf0
 v0:=Tryz.zeroValue0
 t3:=Tryz.underlying3
 a3:=Tryz.isAgg3
 z3:=Tryz.sizeOf3
 v3:=Tryz.zeroValue3
 t4:=Tryz.underlying4
 a4:=Tryz.isAgg4
 z4:=Tryz.sizeOf4
 v4:=Tryz.zeroValue4
 t9:=Tryz.underlying9
 a9:=Tryz.isAgg9
 z9:=Tryz.sizeOf9
 v9:=Tryz.zeroValue9
 t20:=Tryz.underlying20
 a20:=Tryz.isAgg20
 z20:=Tryz.sizeOf20
 v20:=Tryz.zeroValue20
 t22:=Tryz.underlying22
 a22:=Tryz.isAgg22
 z22:=Tryz.sizeOf22
 v22:=Tryz.zeroValue22 }
def acn:Go.Shelf.Ren:=⟨fun|4=>210|n=>n,fun|22=>173|25=>159|3=>3|4=>4|9=>9|20=>20|0=>0|n=>n,fun|n=>n⟩
def acg:Go.Proofs.Lays8.n4 Tryz.prog acn:={
 mixed:=BT
 f4:=⟨Tryz.f210.name,Vc,Tryz.func210.trans (acY some BT)⟩
 t0:=Tryz.underlying0
 a0:=Tryz.isAgg0
 z0:=Tryz.sizeOf0
 v0:=Tryz.zeroValue0
 t3:=Tryz.underlying3
 a3:=Tryz.isAgg3
 z3:=Tryz.sizeOf3
 v3:=Tryz.zeroValue3
 t4:=Tryz.underlying4
 a4:=Tryz.isAgg4
 z4:=Tryz.sizeOf4
 v4:=Tryz.zeroValue4
 t9:=Tryz.underlying9
 a9:=Tryz.isAgg9
 z9:=Tryz.sizeOf9
 v9:=Tryz.zeroValue9
 t20:=Tryz.underlying20
 a20:=Tryz.isAgg20
 z20:=Tryz.sizeOf20
 v20:=Tryz.zeroValue20
 t22:=Tryz.underlying173
 a22:=Tryz.isAgg173
 z22:=Tryz.sizeOf173
 v22:=Tryz.zeroValue173 }
def acp:Go.Shelf.Ren:=⟨fun|4=>212|n=>n,fun|22=>25|25=>56|3=>3|4=>4|9=>9|20=>20|0=>0|n=>n,fun|n=>n⟩
def acf:Go.Proofs.Lays8.n4 Tryz.prog acp:={
 mixed:=BT
 f4:=⟨Tryz.f212.name,Vc,Tryz.func212.trans (acY some BT)⟩
 t0:=Tryz.underlying0
 a0:=Tryz.isAgg0
 z0:=Tryz.sizeOf0
 v0:=Tryz.zeroValue0
 t3:=Tryz.underlying3
 a3:=Tryz.isAgg3
 z3:=Tryz.sizeOf3
 v3:=Tryz.zeroValue3
 t4:=Tryz.underlying4
 a4:=Tryz.isAgg4
 z4:=Tryz.sizeOf4
 v4:=Tryz.zeroValue4
 t9:=Tryz.underlying9
 a9:=Tryz.isAgg9
 z9:=Tryz.sizeOf9
 v9:=Tryz.zeroValue9
 t20:=Tryz.underlying20
 a20:=Tryz.isAgg20
 z20:=Tryz.sizeOf20
 v20:=Tryz.zeroValue20
 t22:=Tryz.underlying25
 a22:=Tryz.isAgg25
 z22:=Tryz.sizeOf25
 v22:=Tryz.zeroValue25 }
def acm:Go.Shelf.Ren:=⟨fun|4=>214|n=>n,fun|22=>179|25=>27|3=>3|4=>4|9=>9|20=>20|0=>0|n=>n,fun|n=>n⟩
def ace:Go.Proofs.Lays8.n4 Tryz.prog acm:={
 mixed:=BT
 f4:=⟨Tryz.f214.name,Vc,Tryz.func214.trans (acY some BT)⟩
 t0:=Tryz.underlying0
 a0:=Tryz.isAgg0
 z0:=Tryz.sizeOf0
 v0:=Tryz.zeroValue0
 t3:=Tryz.underlying3
 a3:=Tryz.isAgg3
 z3:=Tryz.sizeOf3
 v3:=Tryz.zeroValue3
 t4:=Tryz.underlying4
 a4:=Tryz.isAgg4
 z4:=Tryz.sizeOf4
 v4:=Tryz.zeroValue4
 t9:=Tryz.underlying9
 a9:=Tryz.isAgg9
 z9:=Tryz.sizeOf9
 v9:=Tryz.zeroValue9
 t20:=Tryz.underlying20
 a20:=Tryz.isAgg20
 z20:=Tryz.sizeOf20
 v20:=Tryz.zeroValue20
 t22:=Tryz.underlying179
 a22:=Tryz.isAgg179
 z22:=Tryz.sizeOf179
 v22:=Tryz.zeroValue179 }
end Go.Proofs
namespace Go.Proofs.YtkidiopjcgeifaaGreat.C
open Go Go.Av Go.Av.Ap
set_option maxRecDepth 100000
noncomputable def pg:Pg:={ T:=T,funcs:=xV sO,own:=own,other:=fun _=>none }
def hOther:ek pg:=fun f E h=>by cases h
def E86(call:FuncId->List AV->M AV)(fx:jW AV)(a0:AV):cj (pg.cx call Tryz.f86.ntmps L4) fx Tryz.f86 (own 86) [a0]=S86 call fx a0:=BT
def C86(a0:AV):aa pg 86 [a0]=aF (S86 (aa pg) ae (cl ai a0)):=(fw hOther rfl rfl rfl _).trans (acY aF (E86 _ _ (cl ai a0)))
def E36(call:FuncId->List AV->M AV)(fx:jW AV)(a0 a1:AV):cj (pg.cx call Tryz.f36.ntmps L3) fx Tryz.f36 (own 36) [a0,a1]=S36 call fx a0 a1:=BT
def C36(a0 a1:AV):aa pg 36 [a0,a1]=aF (S36 (aa pg) ae (cl ai a0) (cl ai a1)):=(fw hOther rfl rfl rfl _).trans (acY aF (E36 _ _ (cl ai a0) (cl ai a1)))
def E108(call:FuncId->List AV->M AV)(fx:jW AV)(a0:AV):cj (pg.cx call Tryz.f108.ntmps L1) fx Tryz.f108 (own 108) [a0]=S108 call fx a0:=BT
def C108(a0:AV):aa pg 108 [a0]=aF (S108 (aa pg) ae (cl ai a0)):=(fw hOther rfl rfl rfl _).trans (acY aF (E108 _ _ (cl ai a0)))
def E49(call:FuncId->List AV->M AV)(fx:jW AV)(a0 a1:AV):cj (pg.cx call Tryz.f49.ntmps RD) fx Tryz.f49 (own 49) [a0,a1]=S49 call fx a0 a1:=BT
def C49(a0 a1:AV):aa pg 49 [a0,a1]=aF (S49 (aa pg) ae (cl ai a0) (cl ai a1)):=(fw hOther rfl rfl rfl _).trans (acY aF (E49 _ _ (cl ai a0) (cl ai a1)))
theorem JU(t:Nat)(a b:aA):bN T .gtr t (.str a) (.str b)=some (.bool !(aU a b||a== b)):=rfl
def uy(x y:aA):Int:=if aU x y=true then -1 else if aU y x=true then 1 else 0
theorem t86(s:aA):aa pg 86 [.str s]=ao (.bool false):=by
 rw[C86];have e:bN T .neq 9 (.str s) (.str s)=some (.bool !(s== s)):=rfl;simp[S86,e]
def t36(a b:aA):aa pg 36 [.str a,.str b]=ao (.int .i64 (uy a b)):=by
 rw[C36];unfold uy;cases h1:aU a b with
 |true=>simp[S36,t86,h1]
 |false=>
  by_cases h2:a=b
  all_goals simp_all[S36,t86,JU,kZ]
def Qe(l:List Int)(hb:l.length<=1099511627776):∀(n:Nat)(i:Int),l.length-i.toNat=n->0<=i->i<=l.length->
  ae (L108_0 (aa pg) ae) [.int .i64 0,ints l,.int .i64 l.length,.int .i64 i]=ao (.int .i64 (((l.drop i.toNat).find? fun x=>!(x== 0)).getD 0)):=by
 intro n
 induction n with
 |zero=>
  intro i hn hi hl;rw[FL108_0];simp only[L108_0];have h1:¬(i<(l.length:Int)):=WD
  have h2:l.drop i.toNat=[]:=List.drop_eq_nil_of_le WD;simp[h1,h2]
 | succ n ih=>
  intro i hn hi hl;have h1:i<(l.length:Int):=WD
  have hlt:i.toNat<l.length:=WD
  have h4:=ih (i+1) WD WD WD;rw[show (i+1).toNat=i.toNat+1 by omega]at h4;rw[FL108_0,List.drop_eq_getElem_cons hlt];simp only[L108_0,adS];by_cases h0:l[i.toNat]=0
  ·simp (disch:=omega) [h1,aW,Sq,h4,h0,acF l i.toNat hlt]
  ·have h0':(l[i.toNat]== 0)=false:=acM.2 h0;simp (disch:=omega) [h1,aW,Sq,h0,h0',acF l i.toNat hlt]
def t108(l:List Int)(hb:l.length<=1099511627776):aa pg 108 [ints l]=ao (.int .i64 ((l.find? fun x=>!(x== 0)).getD 0)):=by
 rw[C108];simp[S108,Qe l hb l.length 0 rfl WD WD]
def t49(a b:aX):aa pg 49 [dj a,dj b]=ao (.int .i64 (xK a b)):=by
 rw[C49];have hB:∀x y:Int,aI T 32 2 [(0,.int .i64 x),(1,.int .i64 y)]=some (ints [x,y]):=fun x y=>rfl;have hc:(([uy a.1 b.1,uy a.2 b.2].find? fun x=>!(x== 0)).getD 0)=xK a b:=by
  unfold xK uy Ai;have e1:=nG a.1;have e2:=nG a.2;cases h1:aU a.1 b.1 with
  |true=>simp
  | false=>
   cases h2:aU b.1 a.1 with
   |true=>
    grind
   | false=>
    have:a.1=b.1:=by
     by_cases e:a.1=b.1
     ·exact e
     ·grind [kZ]
    grind
 simp_all[S49,t36,t108]
def good:@GoodPg ⟨True⟩ Tryz.prog pg:=by
 letI:Dr:=⟨True⟩
 exact⟨tok,yp,(fun f E h=>by cases h),(fun f h=>by cases h)⟩
end Go.Proofs.YtkidiopjcgeifaaGreat.C
namespace Go.Proofs.YtkidiopjcgeifaaGreat
open Go Go.Av Go.Av.Ap Go.RowKit Go.Sort
set_option maxRecDepth 1000000
def M8{w:World}(hg:GOKw w){blk off n:Nat}{d:Array aX}{os:Array Obj}(hb:gN<=blk):GOKw (sortWorldK eX 2 w blk off n d os):=
 hg.mono fun b hlt=>m9 eX 2 off n d os (Nat.lt_of_lt_of_le hlt hg.lt) WD
def MH:∀args w,(callFunc 49 args).run Tryz.prog w= .ok (.enter 49 args) w:=enters_of Tryz.func49 BT rfl
def IM(S:az)(β:List bQ)(x:aX):VR S β (dj x) (.agg (eX x).toArray):=by
 simp only[dj,VR];exact⟨eX x,rfl,uA.vr S β x⟩
def Yu(x y:aX)(W:World)(hg:GOKw W):Calls Tryz.prog 49 #[.agg (eX x).toArray,.agg (eX y).toArray] W fun e w'=>e= .returned (.int .i64 (xK x y))/\∃q os',w'=grow (W.drewN q) os':=by
 letI:Dr:=⟨True⟩
 have hv:be (nf W) [] [dj x,dj y] [.agg (eX x).toArray,.agg (eX y).toArray]:=by
  simp only[be];exact⟨_,_,rfl,IM _ _ x,_,_,rfl,IM _ _ y,rfl⟩
 have h:=(nn C.good C.hOther 49 [dj x,dj y] [] (nf W) [] W _ (by rw[C.t49];simp[ao]) ⟨hg,fun b _ ho=>by obtain⟨l,_,_,h1,_⟩:=ho;simp at h1,DW hg⟩ (fun _ _ _ h=>h) ⟨rfl,fun _=>.no,fun l cs hl=>by simp at hl⟩ hv).1;rw[C.t49]at h;refine h.mono fun e w' hp=>?_;obtain⟨S',β',v,rfl,hv,L,_⟩:=hp;simp only[VR]at hv;subst hv;exact⟨rfl,L.grew trivial⟩
def WZ:∀w,(isAgg 60).run Tryz.prog w= .ok true w:=fun w=>BT
def VV:∀w,(Go.sizeOf 60).run Tryz.prog w= .ok 2 w:=fun w=>BT
theorem zw(w:World)(blk off cap:Nat)(d:Array aX)(hg:GOKw w)(hb:gN<=blk)(hH:HoldsK kh.ev kh.k w blk off d)(hlt:blk<w.heap.size)(hsz:d.size<4611686018427387904):
  Calls Tryz.prog 104 #[.slice (some ⟨blk,off,none⟩) d.size cap,.func (.func 49) #[] #[]] w fun e w'=>e= .returned (.tuple #[])/\∃n os,w'=sortWorldK kh.ev kh.k w blk off n (pu d.toList).toArray os:=by
 have:=AnyQ.slices_SortFunc_eq abO 2 WZ VV eX (fun _=>rfl) uA.one xK ZA 49 #[] blk off cap d w MH
  (fun m os dk _ x y=>Yu x y _ (M8 hg hb)) hH hlt hsz
 refine this.mono ?_;simp_all[pu,kh]
theorem VK(call:FuncId->List AV->M AV)(args:List AV)(h:Hp)(S:az)(β:List bQ)(w:World)(vs:List Value)(hr:qK 49 call args h≠.fail)(hg:xg S β h w)(hw:Wf S w)(hh:dm S β w h)(hv:be S β args vs):
  Calls Tryz.prog 104 vs.toArray w (eS none S β h w (qK 49 call args h)):=by
 by_cases hf:∃o',args=[.hn,.fn (.func o') [] []]
 ·obtain⟨o',rfl⟩:=hf;have e:qK 49 call [.hn,.fn (.func o') [] []] h=(bif Nat.beq o' 49 then R.ok (.tup []) h else R.fail):=rfl;rw[e]at hr |-;cases hb:Nat.beq o' 49 with
  |false=>grind
  |true=>
   simp only[be,VR]at hv;obtain⟨_,_,rfl,rfl,v,_,rfl,_,rfl⟩:=hv;refine (AnyF.slices_SortFunc_none abO none 0 v w).mono ?_;rintro e' w' ⟨rfl,rfl⟩;exact gX hw hh (Below.refl _ _) Ak (by simp only[VR,be];grind)
 ·have e:qK 49 call args h=wB kh 49 pu call args h:=by
   unfold qK;split
   ·grind
   ·rfl
  rw[e]at hr |-;have h0:=hr;unfold wB at h0;split at h0
  ·rename_i g';cases hb:Nat.beq g' 49 with
   |false=>grind
   |true=>
    have e:wB kh 49 pu call [.sl [],.fn (.func g') [] []] h= .ok (.tup []) h:=by simp only[wB,hb,acD]
    rw[e];simp only[be,VR,acS]at hv;obtain⟨_,_,rfl,⟨a,cap,rfl,_⟩,v,_,rfl,_,rfl⟩:=hv;refine (AnyF.slices_SortFunc_none abO a cap v w).mono ?_;rintro e' w' ⟨rfl,rfl⟩;exact gX hw hh (Below.refl _ _) Ak (by simp only[VR,be];grind)
  ·grind [Re,uA,zw]
  grind
end Go.Proofs.YtkidiopjcgeifaaGreat
namespace Go.Proofs.YtkidiopjcgeifaaGreat
open Go Go.Av Go.Av.Ap Go.RowKit Go.Shelf Go.Sort
attribute [local go_sem] Oper.semAt_some
set_option maxRecDepth 100000
def UW(F:Fence)(n:Nat)(h2:F.fn 103)(h3:F.fn 165)(hro:F.round=none)(hn:4<=n)(g:Nat)(lb:Array Value)(hFg:F.fn g)(eg:∀args w,(callFunc g args).run Tryz.prog w= .ok (.enter g args) w)(S Sp:List iM->Prop)(N:Nat)(hN:N<=1000000)(w:World)(hseq:SeqStopsK F (n-1-1) Tryz.prog g lb (fun x:iM=>#[mZ x]) KeepsWalks S Sp N w):
  CallsIn F n Tryz.prog 103 #[.func (.func g) #[] lb] w fun e w'=>∃v ss,e= .returned v/\S ss/\w'.ownsRow w.heap.size 60 2 v ss.length (ss.flatMap mB)/\(v= .slice none 0 0↔ss=[])/\Below w.heap.size w w':=by
 have h1:1<=n:=WD
 refine callsIn_of_wp Tryz.func103 rfl h2 ?_ hro;simp only[Tryz.ntmps103,adn,acR,acS,Nat.reduceAdd,Nat.reduceSub,adq,adr,adC,adw,acT,ac1]
 gi_wp2_with (gi_at_call 165;refine (UF F (n-1) h3 hro WD g lb hFg eg S Sp N hN _ hseq).mono ?_;rintro e w' ⟨v,ss,rfl,hS,hrow,hnil,hb⟩)
 go_ret
 exact⟨v,ss,rfl,hS,hrow,hnil,hb⟩
def ia(x:iM):aX:=(x.1.data.toList,x.2.data.toList)
def MJ(x:iM):eX (ia x)=mB x:=by
 simp only[eX,ia,mB,str_eq (rfl:x.1.data.toList=_),str_eq (rfl:x.2.data.toList=_)]
def PP(ss:List iM):((ss.map ia).map eX).flatten=ss.flatMap mB:=by
 simp_all[List.flatMap_def,ad0,MJ]
def Iy{w:World}{b n₀:Nat}(enc:aX->List Value)(k off n:Nat)(d:Array aX)(os:Array Obj)(hb:n₀<=b)(hn:n₀<=w.heap.size):Below n₀ w (sortWorldK enc k w b off n d os):=by
 have hg:=zx (w:=w) (b:=b) enc k off n d os;exact⟨hg.os,hg.tape,hg.out,hg.size,fun i hi=>m9 enc k off n d os WD WD⟩
def Ih{W:World}{base n:Nat}{v:Value}{ss:List iM}(h:W.ownsRow base 60 2 v n (ss.flatMap mB))(hn:n=ss.length)(hne:ss≠[]):
  ∃b cap cur,v= .slice (some ⟨b,0,none⟩) n cap/\base<=b/\W.heap[b]? = some (.cells cur 60 (0,0))/\n<=cap/\cur.size=cap*2/\HoldsK eX 2 W b 0 (ss.map ia).toArray:=by
 rcases h.2 with⟨_,h0⟩|⟨b,cap,cur,hv,hb,hc,h1,_,h2,h3⟩
 ·grind
 ·refine⟨b,cap,cur,hv,hb,hc,h1,h2,fun j hj=>?_⟩;have hfl:=kj eX 2 (fun _=>rfl) Vc (ss.map ia).toArray;have hsz:(flatK eX 2 (ss.map ia).toArray).size=ss.length*2:=by rw[size_flatK];simp
  rw[hsz]at hj;have hjc:j<cur.size:=by rw[h2];omega
  have e1:(flatK eX 2 (ss.map ia).toArray)[j]! = cur[j]:=by
   have g1:(flatK eX 2 (ss.map ia).toArray).toList[j]? = cur.toList[j]?:=by
    rw[hfl,show (ss.map ia).toArray.toList=ss.map ia from rfl,PP,<- h3,adM,acL WD]
   rw[ads,ads,adf WD,adf hjc]at g1;rw[acF _ j WD];exact adI g1
  simp_all[World.cell?,World.frozen?]
set_option maxHeartbeats 1000000 in
def DJ(g:Nat)(lb:Array Value)(eg:∀args w,(callFunc g args).run Tryz.prog w= .ok (.enter g args) w)(S Sp:List iM->Prop)(N:Nat)(hN:N<=1000000)(hS1:∀ss,S ss->ss.length=N)(w:World)(hgok:GOKw w)(hseq:∀n,5<=n->SeqStopsK Fence.wide n Tryz.prog g lb (fun x:iM=>#[mZ x]) KeepsWalks S Sp N w):
  Calls Tryz.prog 45 #[.func (.func g) #[] lb,.func (.func 49) #[] #[]] w fun e w'=>∃v ss,e= .returned v/\S ss/\Below w.heap.size w w'/\
   ((ss=[]/\v= .slice none 0 0)\/∃b cap x,v= .slice (some ⟨b,0,none⟩) ss.length cap/\ss.length<=cap/\w.heap.size<=b/\Row w' b x/\x.size=cap*2/\x.toList.take (ss.length*2)=((iD (ss.map ia)).map eX).flatten):=by
 rw[<- callsIn_wide (n:=20)];have h1:1<=20:=Vc
 have f1:Fence.wide.fn 103:=trivial;have f2:Fence.wide.fn 104:=trivial;have hcol:=UW Fence.wide 19 trivial trivial rfl Vc g lb trivial eg S Sp N hN w (hseq _ Vc);refine callsIn_of_wp Tryz.func45 rfl trivial ?_ rfl;simp only[Tryz.ntmps45,adn,acR,acS,Nat.reduceAdd,Nat.reduceSub,adq,adr,adC,adw,acT,ac1]
 gi_wp2_with (gi_at_call 103;refine hcol.mono ?_;rintro e w1 ⟨v,ss,rfl,hS,hrow,hnil,hb⟩)
 by_cases hss:ss=[]
 ·have hv:=hnil.2 hss;subst hv hss;have hsrt:CallsIn Fence.wide 19 Tryz.prog 104 #[.slice none 0 0,.func (.func 49) #[] #[]] w1 _:=callsIn_wide.2 (AnyF.slices_SortFunc_none abO none 0 (.func (.func 49) #[] #[]) w1)
  gi_wp2_with (gi_at_call 104;refine hsrt.mono ?_;rintro e w2 ⟨rfl,rfl⟩)
  go_ret
  simp_all
 ·obtain⟨b,cap,cur,rfl,hbb,hcur,hcap,hcs,hH⟩:=Ih hrow rfl hss;have hbl:b<w1.heap.size:=(acN.1 hcur).1;have hsl:ss.length<4611686018427387904:=by rw[hS1 ss hS];omega
  have hg1:GOKw w1:=hgok.mono fun k hk=>hb.block k (Nat.lt_of_lt_of_le hk hgok.lt);have hsrt0:=zw w1 b 0 cap (ss.map ia).toArray hg1 (adi hgok.lt hbb) hH hbl (by simpa using hsl);rw[show (ss.map ia).toArray.size=ss.length by simp]at hsrt0;have hsrt:CallsIn Fence.wide 19 Tryz.prog 104 #[.slice (some ⟨b,0,none⟩) ss.length cap,.func (.func 49) #[] #[]] w1 _:=callsIn_wide.2 hsrt0
  gi_wp2_with (gi_at_call 104;refine hsrt.mono ?_;rintro e w2 ⟨rfl,m,os,rfl⟩)
  go_ret
  have hrow1:Row w1 b cur:=⟨_,hcur⟩;rw[LC];have hlen:(iD (ss.map ia)).length=ss.length:=by rw[u9];simp
  have hfl:=kj eX 2 (fun _=>rfl) Vc (iD (ss.map ia)).toArray;have hfs:(flatK eX 2 (iD (ss.map ia)).toArray).size=ss.length*2:=by rw[size_flatK];simp[hlen]
  have hr2:=zy hrow1 eX 2 0 m (iD (ss.map ia)).toArray os qr;refine⟨_,ss,rfl,hS,hb.trans (Iy eX 2 0 m _ os hbb hb.size),.inr ⟨b,cap,_,rfl,hcap,hbb,hr2,?_,?_⟩⟩
  all_goals grind
theorem P8{S:az}{β:List bQ}:{es:List AV} ->{ents:List MapEntry} ->{ks:List aX} ->mr S β es ents->es.mapM Fl=some ks->∃rs:List iM,rs.map ia=ks/\ents.map (·.key)=rs.map mZ:=by
 intro es
 induction es with
 |nil=>
  intro ents ks h hk;have hl:=h.1;simp at hl hk;subst hk;cases ents with
  |nil=>simp_all
  |cons x r=>simp at hl
 | cons e es ih=>
  intro ents ks h hk;cases ents with
  |nil=>have:=h.1;simp at this
  | cons x ents=>
   rw[afn]at hk;cases h1:Fl e with
   |none=>grind
   | some k=>
    cases h2:es.mapM Fl with
    |none=>grind
    | some ks'=>
     rw[h1,h2]at hk;simp only[Option.pure_def,Option.bind_eq_bind,ad7,acz]at hk;subst hk;obtain⟨rs,hr1,hr2⟩:=ih (ents:=ents) ⟨by have:=h.1;grind,fun i a y ha hy=>h.2 (i+1) a y (by simpa using ha) (by simpa using hy)⟩ h2;obtain⟨kk,vv,rfl,hkk,_⟩:=h.2 0 e x rfl rfl;unfold Fl at h1;split at h1
     ·rename_i a b v he;simp only[AV.tup.injEq,adN,aeq]at he;obtain⟨rfl,rfl⟩:=he;simp only[acz]at h1;subst h1;simp only[VR,be]at hkk;obtain⟨_,hx,_,_,rfl,⟨y1,rfl,hy1⟩,_,_,rfl,⟨y2,rfl,hy2⟩,rfl⟩:=hkk;refine⟨(y1,y2):: rs,?_,?_⟩
      all_goals grind [ia,mZ]
     ·cases h1
theorem Rt{S:az}{β:List bQ}{b cap:Nat}{x:Array Value}{l:List aX}(hl:l.length<=cap)(hx:x.size=cap*2)(ht:x.toList.take (l.length*2)=(l.map eX).flatten):
  VR (S.withRowTo b x.size x) β (dx l) (.slice (some ⟨b,0,none⟩) l.length cap):=by
 simp only[dx,VR,adJ];refine⟨some ⟨b,0,none⟩,cap,rfl,hl,(fun h=>by cases h),fun q hq=>?_⟩;simp only[acz]at hq;subst hq;refine⟨fun _=>rfl,2,.of_get fun i e he=>?_⟩;rw[adK]at he;cases hi:l[i]? with
 |none=>grind
 | some r=>
  rw[hi]at he;simp only[adv,acz]at he;subst he;have hil:=jv hi;refine⟨.agg (eX r).toArray,IM _ _ r,rfl,fun j v hj=>?_⟩;have hj2:j<2:=by
   have:=jv hj
   simpa [Value.cells,eX]using this
  have hg:(l.map eX).flatten[i*2+j]? = some v:=by
   rw[qf eX 2 (fun _=>rfl) Vc,show (i*2+j) / 2=i by omega,show (i*2+j) % 2=j by omega,hi];simpa [Value.cells]using hj
  rw[<- ht,adM,acL WD,ads]at hg;unfold az.withRowTo
  grind
def Zg(call:FuncId->List AV->M AV)(args:List AV)(h:Hp)(S:az)(β:List bQ)(w:World)(vs:List Value)(hr:rr [105,225] 49 call args h≠.fail)(hg:xg S β h w)(hw:Wf S w)(hh:dm S β w h)(hv:be S β args vs):
  Calls Tryz.prog 45 vs.toArray w (eS none S β h w (rr [105,225] 49 call args h)):=by
 unfold rr at hr |-;split at hr
 ·rename_i g x o';cases hb:dM [105,225] g&&Nat.beq 49 o' with
  |false=>grind
  | true =>
   rw[hb]at hr;simp only[acD]at hr |-;cases hes:mE h x with
   |none=>grind
   | some es=>
    rw[hes]at hr;simp only at hr |-;cases hks:es.mapM Fl with
    |none=>grind
    | some ks=>
     rw[hks]at hr;simp only at hr |-;by_cases hlen:ks.length<=1000000
     ·rw [acL hlen]at hr |-;simp only[acB]at hb;have ho:o'=49:=(Nat.eq_of_beq_eq_true hb.2).symm;subst ho;simp only[be,VR]at hv;obtain⟨_,_,rfl,⟨_,_,rfl,rfl,_,_,rfl,⟨Bm,Bo,cs,rfl,⟨xv,_,rfl,hxv,rfl⟩,hcell⟩,rfl⟩,_,_,rfl,⟨_,_,rfl,rfl,rfl⟩,rfl⟩:=hv;have hBs:S Bm Bo=some xv:=hcell 0 xv rfl;have hBc:=hw _ _ _ hBs;have hBl:=hw.lt hBs;have hh0:=hh;obtain⟨_,ω,hH⟩:=hh;have hkeys:∃rs:List iM,rs.map ia=ks/\((w.cell? ⟨Bm,Bo,none⟩=some (.map none)/\rs=[])\/∃b es clock,w.cell? ⟨Bm,Bo,none⟩=some (.map (some b))/\w.heap[b]? = some (.map es clock)/\my es.toList clock/\es.toList.map (·.key)=rs.map mZ):=by
       unfold mE at hes;split at hes
       ·rename_i l;split at hes
        ·rename_i es' hl;simp only[acz]at hes;subst hes;simp only[VR]at hxv;obtain⟨⟨b,z⟩,hbl,h0,rfl⟩:=hxv;simp only at h0;subst h0;obtain⟨ents,clock,g1,g2,g3,_⟩:=hH.mapRow hl hbl
         grind [P8]
        ·cases hes
       ·simp only[acz]at hes;subst hes;simp only[VR]at hxv
        grind
       ·cases hes
      obtain⟨rs,hrs,hc⟩:=hkeys;have hgen:∀g',(∀args w,(callFunc g' args).run Tryz.prog w= .ok (.enter g' args) w)->
        (∀n,5<=n->SeqStopsK Fence.wide n Tryz.prog g' #[.pointer (some ⟨Bm,Bo,none⟩)] (fun x:iM=>#[mZ x]) KeepsWalks (fun ss=>ss.Perm rs) (fun _=>True) rs.length w)->
        Calls Tryz.prog 45 #[.func (.func g') #[] #[.pointer (some ⟨Bm,Bo,none⟩)],.func (.func 49) #[] #[]] w (eS none S β h w (.ok (dx (iD ks)) h)):=by
       intro g' eg hseq;refine (DJ g' _ eg _ _ rs.length qr (fun ss hs=>hs.length_eq) w hg.1 hseq).mono ?_;rintro e w' ⟨v,ss,rfl,hS,hB,hres⟩;have hso:iD ks=iD (ss.map ia):=by rw[<- hrs];exact Aq (hS.map ia).symm
       rcases hres with⟨rfl,rfl⟩|⟨b,cap,y,rfl,h1,h2,h3,h4,h5⟩
       ·refine gX hw hh0 hB Ak ?_;rw[hso];simp only[ael,iD,dx,VR,acS]
        grind
       ·have hl2:(iD (ss.map ia)).length=ss.length:=by rw[u9];simp
        refine Kr hw hh0 hB Ak h3 h2 ?_
        grind [Rt]
      have hg2:g=105\/g=225:=by
       have:=hb.1
       have e:∀k,g≠k->Nat.beq k g=false:=fun k hk=>by
        cases h:Nat.beq k g with
        |false=>rfl
        |true=>exact absurd (Nat.eq_of_beq_eq_true h).symm hk
       by_cases q1:g=105
       ·exact .inl q1
       ·by_cases q2:g=225
        ·exact .inr q2
        ·simp only[dM,e _ q1,e _ q2]at this;cases this
      rcases hg2 with rfl|rfl
      ·exact hgen 105 (enters_of Tryz.func105 BT rfl) fun n hn=>Ae Fence.wide n trivial rfl WD Bm Bo rs w hBl hc
      ·exact hgen 225 (enters_of Tryz.func225 BT rfl) fun n hn=>Af Fence.wide n trivial rfl WD Bm Bo rs w hBl hc
     grind
 grind
end Go.Proofs.YtkidiopjcgeifaaGreat
namespace Go.Proofs.YtkidiopjcgeifaaGreat
open Go Go.Av
set_option maxRecDepth 100000
noncomputable def zR(n:Nat)(a:Ann):Cx:={ T:=T,call:=fun _ _=>gk,own:=own,iso:=fun _=>false,nw:=fun _=>false,nt:=n,ann:=a }
def qS(n:Nat)(a:Ann):eh Tryz.prog (zR n a).own (zR n a).call:=fun f args h S β w vs hr=>absurd rfl hr
def wU(n:Nat)(a:Ann):IsoCall (zR n a):=⟨fun f args h=>Bool.noConfusion h,fun f args h=>Bool.noConfusion h⟩
def Yw(e:AV)(es:List AV):cj (zR Tryz.f117.ntmps Cr) (dV 0) Tryz.f117 none [.sl (e:: es)]=aG (appH T 31 true (.sl []) (.sl (e:: es))) fun v=>aG (bJ (some v)) ao:=BT
def Yx:cj (zR Tryz.f117.ntmps Cr) (dV 0) Tryz.f117 none [.hn]=aG (bJ (some (.sl []))) ao:=BT
def Yy(l off:Nat):cj (zR Tryz.f117.ntmps Cr) (dV 0) Tryz.f117 none [.hs l off 0 1 false]=aG (appH T 31 true (.sl []) (.hs l off 0 1 false)) fun v=>aG (bJ (some v)) ao:=BT
def Yz(e:AV)(es:List AV):cj (zR Tryz.f243.ntmps Cs) (dV 0) Tryz.f243 none [.sl (e:: es)]=aG (bJ (dL T 22 (.sl []) (.sl (e:: es)))) fun v=>aG (bJ (some v)) ao:=BT
def YA:cj (zR Tryz.f243.ntmps Cs) (dV 0) Tryz.f243 none [.hn]=aG (bJ (some (.sl []))) ao:=BT
def YB(l off:Nat):cj (zR Tryz.f243.ntmps Cs) (dV 0) Tryz.f243 none [.hs l off 0 1 false]=aG (bJ (dL T 22 (.sl []) (.hs l off 0 1 false))) fun v=>aG (bJ (some v)) ao:=BT
def YC(l off:Nat):dL T 22 (.sl []) (.hs l off 0 1 false)=some (.sl []):=by rfl
def VL(call:FuncId->List AV->M AV)(args:List AV)(h:Hp)(S:az)(β:List bQ)(w:World)(vs:List Value)(hr:eG T 31 call args h≠.fail)(hg:xg S β h w)(hw:Wf S w)(hh:dm S β w h)(hv:be S β args vs):
  Calls Tryz.prog 117 vs.toArray w (eS none S β h w (eG T 31 call args h)):=by
 have key:∀es,args=[.sl es]->Calls Tryz.prog 117 vs.toArray w (eS none S β h w (eG T 31 call args h)):=by
  rintro es rfl;exact (nr (cx:=zR Tryz.f117.ntmps Cr) (E:=fun es h=>eG T 31 call [.sl es] h) tok (qS _ _) (wU _ _) Tryz.func117 rfl (fun h=>by rfl) (fun e es h=>by rw[Yw];exact ae5 (Cy _) h) (fun h=>by rw[Yx];rfl) (fun l off h=>by rw[Yy];rfl) hr hg hw hh hv).1
 unfold eG at hr;split at hr
 ·exact key _ rfl
 ·exact absurd rfl hr
def VN(call:FuncId->List AV->M AV)(args:List AV)(h:Hp)(S:az)(β:List bQ)(w:World)(vs:List Value)(hr:iE T 22 call args h≠.fail)(hg:xg S β h w)(hw:Wf S w)(hh:dm S β w h)(hv:be S β args vs):
  Calls Tryz.prog 243 vs.toArray w (eS none S β h w (iE T 22 call args h)):=by
 have key:∀es,args=[.sl es]->Calls Tryz.prog 243 vs.toArray w (eS none S β h w (iE T 22 call args h)):=by
  rintro es rfl;exact (nr (cx:=zR Tryz.f243.ntmps Cs) (E:=fun es h=>iE T 22 call [.sl es] h) tok (qS _ _) (wU _ _) Tryz.func243 rfl (fun h=>by rfl) (fun e es h=>by rw[Yz];exact ae5 (Cy _) h) (fun h=>by rw[YA];rfl) (fun l off h=>by rw[YB,YC];rfl) hr hg hw hh hv).1
 unfold iE at hr;split at hr
 ·exact key _ rfl
 ·exact absurd rfl hr
def WX:Prop:=∀call,eh Tryz.prog own call->∀(args:List AV)(h:Hp)(S:az)(β:List bQ)(w:World)(vs:List Value),GC 38 .i64 (.agg [qi 0,qi 0,.sl [],.sl []]) call args h≠.fail->xg S β h w->Wf S w->dm S β w h->be S β args vs->
 Calls Tryz.prog 118 vs.toArray w (eS none S β h w (GC 38 .i64 (.agg [qi 0,qi 0,.sl [],.sl []]) call args h))
end Go.Proofs.YtkidiopjcgeifaaGreat
namespace Go.Proofs.YtkidiopjcgeifaaGreat
open Go Go.Av
def He(p q:Addr)(w:World):CallsD Tryz.prog 186 #[.pointer (some p),.pointer (some q)] .returning w fun e u' w'=>e= .returned (.tuple #[])/\u'= .returning/\w'=w:=by
 refine callsD_of_wpS Tryz.func186 rfl fun c₀ cs hu=>?_;apply wpS_seq;apply wpS_region;simp[wpOpsS,go_sem,recoverD,hu,Tryz.ntmps186,Exit.thenS];refine wpS_of_wp ?_
 go_wp2
 cases c₀;simp_all[bodyPostS,results]
def Md(n:Int)(w:World):(Instr.typeAssert (.iface 38 (.int .i64 n)) 20 38 true).run Tryz.prog w= .ok (.tuple #[.int .i64 n,.bool true]) w:=BT
def UK(w:World):(Instr.build 62 #[]).run Tryz.prog w= .ok (.agg #[.int .i64 0,.int .i64 0,.slice none 0 0,.slice none 0 0]) w:=by
 obtain⟨v,h1,h2⟩:=Ew (P:=Tryz.prog) (T:=T) (w:=w) (S:=fun _ _=>none) (β:=[]) (told:=true) (t:=62) (parts:=[]) (r:=.agg [.int .i64 0,.int .i64 0,.hn,.hn]) (qs:=#[]) tok rfl rfl
 grind [VR,be]
set_option maxHeartbeats 4000000 in
set_option maxRecDepth 100000 in
def Ko(b c:Nat)(x0 x1 x2 x3 y0:Value)(n:Int)(w:World)(c0:w.cell? ⟨b,0,none⟩=some x0)(c1:w.cell? ⟨b,1,none⟩=some x1)(c2:w.cell? ⟨b,2,none⟩=some x2)(c3:w.cell? ⟨b,3,none⟩=some x3)(d0:w.cell? ⟨c,0,none⟩=some y0)(f0:w.frozen? ⟨b,0,none⟩=false)(f1:w.frozen? ⟨b,1,none⟩=false)(f2:w.frozen? ⟨b,2,none⟩=false)(f3:w.frozen? ⟨b,3,none⟩=false)(g0:w.frozen? ⟨c,0,none⟩=false)(hne:¬b=c)(hne':¬c=b):
  CallsD Tryz.prog 186 #[.pointer (some ⟨b,0,none⟩),.pointer (some ⟨c,0,none⟩)] (.panicking [{ v:=.iface 38 (.int .i64 n),recovered:=false }]) w fun e u' w'=>
   e= .returned (.tuple #[])/\u'= .panicking [{ v:=.iface 38 (.int .i64 n),recovered:=true }]/\w'=((((w.setCell ⟨b,0,none⟩ (.int .i64 0)).setCell ⟨b,1,none⟩ (.int .i64 0)).setCell ⟨b,2,none⟩ (.slice none 0 0)).setCell ⟨b,3,none⟩ (.slice none 0 0)).setCell ⟨c,0,none⟩ (.int .i64 n):=by
 refine callsD_of_wpS Tryz.func186 rfl fun c₀ cs hu=>?_;apply wpS_seq;apply wpS_region;simp[wpOpsS,go_sem,recoverD,hu,Tryz.ntmps186,Exit.thenS];refine wpS_of_wp ?_;have h1:=Md n;have h2:=UK
 go_wp2
 simp_all[bodyPostS,results]
end Go.Proofs.YtkidiopjcgeifaaGreat
namespace Go.Proofs.YtkidiopjcgeifaaGreat
open Go Go.Av
set_option maxRecDepth 100000
def ve(w:World):World:=(w.alloc (Obj.cells #[Value.int IntKind.i64 0,Value.int IntKind.i64 0,Value.slice none 0 0,Value.slice none 0 0] 62)).alloc (Obj.cells #[Value.int IntKind.i64 0] 38)
def II(w w':World)(u0 u1 u2 u3 e:Value):World:=((((w'.setCell ⟨w.heap.size,0,none⟩ u0).setCell ⟨w.heap.size,1,none⟩ u1).setCell ⟨w.heap.size,2,none⟩ u2).setCell ⟨w.heap.size,3,none⟩ u3).setCell ⟨w.heap.size+1,0,none⟩ e
def ab6(w:World)(R:Ending->World->Prop):Ending->World->Prop:=fun e w'=>
 w'.heap[w.heap.size]? = (ve w).heap[w.heap.size]? /\w'.heap[w.heap.size+1]? = (ve w).heap[w.heap.size+1]? /\
 ((∃u0 u1 u2 u3:Value,u0.oneCell'=true/\u1.oneCell'=true/\u2.oneCell'=true/\u3.oneCell'=true/\e= .returned (.agg #[u0,u1,u2,u3])/\R (.returned (.tuple #[.agg #[u0,u1,u2,u3],.int .i64 0])) (II w w' u0 u1 u2 u3 (.int .i64 0)))\/
  ∃n,e= .panicked [{ v:=.iface 38 (.int .i64 n),recovered:=false }]/\R (.returned (.tuple #[.agg #[.int .i64 0,.int .i64 0,.slice none 0 0,.slice none 0 0],.int .i64 n])) (II w w' (.int .i64 0) (.int .i64 0) (.slice none 0 0) (.slice none 0 0) (.int .i64 n)))
set_option maxHeartbeats 4000000 in
def OI(g:FuncId)(x y:Array Value)(w:World)(R:Ending->World->Prop)(hfn:(Tryz.prog.funcs[g]?).any (fun fn=>fn.body.isSome&&!(fn.name== "runtime.NumGoroutine"))=true)(hc:Calls Tryz.prog g (x++y) (ve w) (ab6 w R)):Calls Tryz.prog 118 #[.func (.func g) x y] w R:=by
 have hmf:∀(fn:Fn)(first cap:Array Value)(w:World),(Instr.makeFunc fn first cap).run Tryz.prog w= .ok (.func fn first cap) w:=fun _ _ _ _=>rfl
 go_enter_defers Tryz.func118,Tryz.ntmps118
 go_wp2
 rw[lT hfn,Oper.upon_enter];refine hc.mono fun e w' h=>?_;obtain⟨k0,k1,h⟩:=h;have r0:w'.heap[w.heap.size]? = some (.cells #[Value.int IntKind.i64 0,Value.int IntKind.i64 0,Value.slice none 0 0,Value.slice none 0 0] 62):=by rw[k0];exact (Go.Av.alloc_old _ _ AI).trans (heap_alloc_new w _)
 have r1:w'.heap[w.heap.size+1]? = some (.cells #[Value.int IntKind.i64 0] 38):=by rw[k1];have:=heap_alloc_new (w.alloc (Obj.cells #[Value.int IntKind.i64 0,Value.int IntKind.i64 0,Value.slice none 0 0,Value.slice none 0 0] 62)) (Obj.cells #[Value.int IntKind.i64 0] 38);rwa [World.size_alloc]at this
 have c0:w'.cell? ⟨w.heap.size,0,none⟩=some (.int .i64 0):=by simp[World.cell?,r0]
 have c1:w'.cell? ⟨w.heap.size,1,none⟩=some (.int .i64 0):=by simp[World.cell?,r0]
 have c2:w'.cell? ⟨w.heap.size,2,none⟩=some (.slice none 0 0):=by simp[World.cell?,r0]
 have c3:w'.cell? ⟨w.heap.size,3,none⟩=some (.slice none 0 0):=by simp[World.cell?,r0]
 have d0:w'.cell? ⟨w.heap.size+1,0,none⟩=some (.int .i64 0):=by simp[World.cell?,r1]
 have f0:w'.frozen? ⟨w.heap.size,0,none⟩=false:=by simp[World.frozen?,r0]
 have f1:w'.frozen? ⟨w.heap.size,1,none⟩=false:=by simp[World.frozen?,r0]
 have f2:w'.frozen? ⟨w.heap.size,2,none⟩=false:=by simp[World.frozen?,r0]
 have f3:w'.frozen? ⟨w.heap.size,3,none⟩=false:=by simp[World.frozen?,r0]
 have g0:w'.frozen? ⟨w.heap.size+1,0,none⟩=false:=by simp[World.frozen?,r1]
 clear k0 k1 r0 r1 hc hmf;rcases h with⟨u0,u1,u2,u3,o0,o1,o2,o3,rfl,hR⟩|⟨n,rfl,hR⟩
 ·simp only;rename_i K1 hK1 K hK;apply hK;clear hK;have hK1':=hK1;clear hK1;have s0:∀a m (w:World),(store a u0 m).run Tryz.prog w=stored Tryz.prog w a u0 m:=fun a m w=>run_store _ w a u0 m o0;have s1:∀a m (w:World),(store a u1 m).run Tryz.prog w=stored Tryz.prog w a u1 m:=fun a m w=>run_store _ w a u1 m o1;have s2:∀a m (w:World),(store a u2 m).run Tryz.prog w=stored Tryz.prog w a u2 m:=fun a m w=>run_store _ w a u2 m o2;have s3:∀a m (w:World),(store a u3 m).run Tryz.prog w=stored Tryz.prog w a u3 m:=fun a m w=>run_store _ w a u3 m o3
  go_wp2
  change Leaves _ _ _ _ _ _ _;refine leaves_cons (f:=186) (args:=#[.pointer (some ⟨w.heap.size,0,none⟩),.pointer (some ⟨w.heap.size+1,0,none⟩)]) AI (by simp[go_sem]) ?_;refine (He ⟨w.heap.size,0,none⟩ ⟨w.heap.size+1,0,none⟩ _).mono ?_;rintro e u' w'' ⟨rfl,rfl,rfl⟩;simp only[Leaves,settle];refine⟨_,?_,hR⟩;simp[results,Tryz.results118,go_sem,II,World.cell?_setCell_same,c0,c1,c2,c3,d0]
 ·change Leaves _ _ _ _ _ _ _;refine leaves_cons (f:=186) (args:=#[.pointer (some ⟨w.heap.size,0,none⟩),.pointer (some ⟨w.heap.size+1,0,none⟩)]) AI (by simp[go_sem]) ?_;refine (Ko w.heap.size (w.heap.size+1) _ _ _ _ _ n w' c0 c1 c2 c3 d0 f0 f1 f2 f3 g0 WD WD).mono ?_;rintro e u' w'' ⟨rfl,rfl,rfl⟩;simp only[Leaves,settle];refine⟨_,?_,hR⟩;simp[results,Tryz.results118,go_sem,II,World.cell?_setCell_same,c0,c1,c2,c3,d0]
def vf(w:World):(ve w).heap.size=w.heap.size+2:=by simp[ve]
def OH(w:World)(b:Nat)(hb:b<w.heap.size):(ve w).heap[b]? = w.heap[b]?:=by
 grind [ve,Go.Av.alloc_old]
def GE(w:World):Gro w (ve w):=(Gro.alloc w _ _).trans (Gro.alloc _ _ _)
def GD(w w':World)(u0 u1 u2 u3 e:Value):Gro w' (II w w' u0 u1 u2 u3 e):=
 ((((Gro.setCell _ _ _).trans (Gro.setCell _ _ _)).trans (Gro.setCell _ _ _)).trans (Gro.setCell _ _ _)).trans (Gro.setCell _ _ _)
def Cb(w w':World)(u0 u1 u2 u3 e:Value)(b:Nat)(hb:¬(w.heap.size<=b/\b<(ve w).heap.size)):(II w w' u0 u1 u2 u3 e).heap[b]? = w'.heap[b]?:=by
 rw[vf]at hb;unfold II;rw[jT Bk,jT Bk,jT Bk,jT Bk,jT Bk]
def Kl{call:FuncId->List AV->M AV}{f:AV}{xs:List AV}{h:Hp}(hr:ba call f xs h≠.fail):∃g a c,f= .fn (.func g) a c:=by
 unfold ba at hr;split at hr
 ·grind
 ·exact absurd rfl hr
theorem V3:WX:=by
 intro call hC args h S β w vs hr hg hw hh hv
 have key:∀f,args=[f]->Calls Tryz.prog 118 vs.toArray w (eS none S β h w (GC 38 .i64 (.agg [.int .i64 0,.int .i64 0,.sl [],.sl []]) call args h)):=by
  rintro f rfl;have ht:GC 38 .i64 (.agg [.int .i64 0,.int .i64 0,.sl [],.sl []]) call [f] h=DX 38 .i64 (.agg [.int .i64 0,.int .i64 0,.sl [],.sl []]) (ba call f [] h):=rfl;rw[ht]at hr |-;clear ht;simp only[be]at hv;obtain⟨fv,_,rfl,hv,rfl⟩:=hv;have hne:ba call f [] h≠.fail:=fun e=>by rw[e]at hr;exact hr rfl
  obtain⟨g,a,c,rfl⟩:=Kl hne
  ·have hcv:ba call (.fn (.func g) a c) [] h=call g (a++[]++c) h:=rfl;rw[hcv]at hr hne |-;simp only[VR]at hv;obtain⟨x,y,rfl,hx,hy⟩:=hv;have hold:=OH w;have hv2:be S β (a++[]++c) (x++y):=by simpa using hx.append hy
   obtain⟨hcall,hfn⟩:=hC g (a++[]++c) h S β (ve w) (x++y) hne ⟨hg.1.mono fun b hb=>hold b (Nat.lt_of_lt_of_le hb hg.1.lt),hg.2⟩ (hw.grow hold) (hh.grow hold) hv2;refine OI g x.toArray y.toArray w _ hfn ?_;have e:(x++y).toArray=x.toArray++y.toArray:=AI
   rw[<- e];refine hcall.mono fun en w' hp=>?_;have kk:∀S' β' h',Go.Av.Left (cQ β h) S β (ve w) S' β' w' h'->w'.heap[w.heap.size]? = (ve w).heap[w.heap.size]? /\w'.heap[w.heap.size+1]? = (ve w).heap[w.heap.size+1]?:=fun S' β' h' L=>
    ⟨(L.keep _ (by rw[vf];omega) fun ho=>by have:=hh.low ho;omega).1,(L.keep _ (by rw[vf];omega) fun ho=>by have:=hh.low ho;omega).1⟩
   generalize call g (a++[]++c) h=r at hr hne hp |-;cases r with
   |fail=>grind
   | ok v h'=>
    obtain⟨S',β',u,rfl,hu,L,_⟩:=hp;refine⟨(kk _ _ _ L).1,(kk _ _ _ L).2,.inl ?_⟩;simp only[DX]at hr |-;cases hok:cn 4 v with
    |false=>grind
    | true=>
     obtain⟨g1,g2,g3⟩:=pf hok hu;have hcs:∃cs,v= .agg cs:=by
      simp only[cn,acB]at hok;have h1:=hok.1;cases v<;>simp[cW]at h1;exact⟨_,rfl⟩
     obtain⟨cs,rfl⟩:=hcs;simp only[VR]at hu;obtain⟨us,rfl,hus⟩:=hu;simp only[Value.cells]at g1 g3
     match us,g1 with
     |[u0,u1,u2,u3],_=>
      refine⟨u0,u1,u2,u3,g3 u0 AI,g3 u1 AI,g3 u2 AI,g3 u3 AI,rfl,S',β',_,rfl,?_,Br (GE w) hold L (GD ..) (fun b hb=>Cb w w' _ _ _ _ _ b hb) hw hh,fun sz hsz=>by cases hsz⟩;simp only[VR,be];exact⟨[.agg #[u0,u1,u2,u3],.int .i64 0],rfl,_,_,rfl,⟨[u0,u1,u2,u3],rfl,hus⟩,_,_,rfl,rfl,rfl⟩
   | pan v h'=>
    obtain⟨S',β',u,rfl,hu,L⟩:=hp;refine⟨(kk _ _ _ L).1,(kk _ _ _ L).2,.inr ?_⟩;unfold DX at hr |-;split at hr
    ·grind
    ·rename_i t' k' n h'' heq;cases heq;cases hb:(Nat.beq t' 38&&decide (k'=IntKind.i64))with
     |false=>grind
     |true=>
      simp only[acB,acP]at hb;obtain⟨hb1,rfl⟩:=hb
      have:=Nat.eq_of_beq_eq_true hb1
      subst this;simp only[VR]at hu;obtain⟨u',rfl,rfl⟩:=hu;refine⟨n,rfl,S',β',_,rfl,?_,Br (GE w) hold L (GD ..) (fun b hb=>Cb w w' _ _ _ _ _ b hb) hw hh,fun sz hsz=>by cases hsz⟩;simp only[VR,be];refine⟨[.agg #[.int .i64 0,.int .i64 0,.slice none 0 0,.slice none 0 0],.int .i64 n],rfl,_,_,rfl,⟨[.int .i64 0,.int .i64 0,.slice none 0 0,.slice none 0 0],rfl,_,_,rfl,rfl,_,_,rfl,rfl,_,_,rfl,?_,_,_,rfl,?_,rfl⟩,_,_,rfl,rfl,rfl⟩
      ·exact⟨none,0,rfl,acC _,fun _=>rfl,fun q hq=>by cases hq⟩
      ·exact⟨none,0,rfl,acC _,fun _=>rfl,fun q hq=>by cases hq⟩
    grind
 rcases args with _|⟨f,_|⟨f2,r⟩⟩
 ·exact absurd rfl hr
 ·exact key _ rfl
 ·exact absurd rfl hr
end Go.Proofs.YtkidiopjcgeifaaGreat
namespace Go.Proofs.YtkidiopjcgeifaaGreat
open Go Go.Av Go.RowKit
set_option maxRecDepth 100000
def JV{S:az}{β:List bQ}{s:List UInt8}{r:List Value}{l:List AV}(hv:be S β (.str s:: l) r):∃x r',r= .string x:: r'/\x.data.toList=s/\be S β l r':=by
 simp only[be,VR]at hv
 grind
def VM(call:FuncId->List AV->M AV)(args:List AV)(h:Hp)(S:az)(β:List bQ)(w:World)(vs:List Value)(hr:oc call args h≠.fail)(hg:xg S β h w)(hw:Wf S w)(hh:dm S β w h)(hv:be S β args vs):
  Calls Tryz.prog 131 vs.toArray w (eS none S β h w (oc call args h)):=by
 unfold oc at hr |-;split at hr
 ·rename_i s t;obtain⟨x,r,rfl,hx,hv⟩:=JV hv;obtain⟨y,r,rfl,hy,hv⟩:=JV hv;simp only[be]at hv;subst hv;cases hc:decide (s.length<4294967281)with
  |false=>rw[hc]at hr;exact absurd rfl hr
  |true=>
   simp only[acD];have hlen:x.size=s.length:=by rw[<- hx,adE];rfl
   obtain⟨m,hm⟩:=hg.1.max;refine (Any.strings_Contains acw x y m w qr hm).mono ?_;rintro e w' ⟨rfl,rfl⟩;exact gX hw hh (Below.refl _ _) Ak (by simp only[VR];rw[hx,hy])
 ·exact absurd rfl hr
end Go.Proofs.YtkidiopjcgeifaaGreat
