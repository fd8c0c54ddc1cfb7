/-
  The contracts of the program's decimals and of strings.Split at a dot.
-/
import Derived.Test.YtadnfbiaknpllaaGreatDoorXXhand4
import Derived.Shelf.Abstract
import Derived.Shelf.Strconv.Itoa4
import Derived.Shelf.Strconv.ParseIntPublic10
import Derived.Shelf.Strings.Split
import Derived.Lib.AppendIntMem
import Derived.Lib.ParseIntBTie
import Derived.Lib.LaidTab
import Derived.Stop.IfaceNil
import Derived.WalkKit
import Derived.BigCall
import Derived.Ground.NamesProg
import Derived.Test.YtadnfbiaknpllaaGreatDoorProg
set_option linter.unusedVariables false
noncomputable def arF(m:Int->Option (List UInt8)):Go.V.aK Go.V.K:={f:=88,sh:=⟨[.int .i64],[]⟩,R:=List UInt8,run:=fun x=>m x.1.1,dflt:=default,out:=fun r=>(Go.V.Sh.enc Go.V.D (.str) r,Go.V.aQ.encs Go.V.D [] ())}
noncomputable def Lt(m:List UInt8->Option (Int×Bool)):Go.V.aK Go.V.K:={f:=55,sh:=⟨[.str],[]⟩,R:=Int×Bool,run:=fun x=>m x.1.1,dflt:=default,out:=fun r=>(Go.V.Sh.enc Go.V.D (.bA [.int .i64,.bool]) (r.1,(r.2,())),Go.V.aQ.encs Go.V.D [] ())}
noncomputable def Lu(m:List UInt8->List UInt8->Option (List (List UInt8))):Go.V.aK Go.V.K:={f:=54,sh:=⟨[.str,.str],[]⟩,R:=List (List UInt8),run:=fun x=>m x.1.1 x.1.2.1,dflt:=default,out:=fun r=>(Go.V.Sh.enc Go.V.D (.ax Go.V.U.str) r,Go.V.aQ.encs Go.V.D [] ())}
namespace Go.Proofs
open Go.RowKit Go.Shelf Go.V Go.Lib Go.Sort
theorem mQ{a:Option Func}{x y:Func}(h:a=some x)(k:x=y):a=some y:=h.trans (gV some k)
def Tryz.laysFI_ren:Go.Shelf.Ren:=⟨fun|173=>127|246=>160|283=>191|284=>192|285=>193|286=>194|129=>213|317=>212|318=>214|319=>215|320=>216|337=>228|338=>229|n=>n,fun|171=>205|53=>59|37=>22|173=>208|212=>228|51=>221|213=>229|46=>90|232=>247|233=>248|n=>n,fun|17=>5|18=>6|19=>7|n=>n⟩
theorem Tryz.laysFI:Go.Proofs.LaysM.n173 Tryz.prog Tryz.laysFI_ren:={
 mixed:=by kernel_rfl
 f129:=mQ Tryz.func213 (by kernel_rfl)
 f173:=mQ Tryz.func127 (by kernel_rfl)
 f246:=mQ Tryz.func160 (by kernel_rfl)
 f283:=mQ Tryz.func191 (by kernel_rfl)
 f284:=mQ Tryz.func192 (by kernel_rfl)
 f285:=mQ Tryz.func193 (by kernel_rfl)
 f286:=mQ Tryz.func194 (by kernel_rfl)
 f317:=mQ Tryz.func212 (by kernel_rfl)
 f318:=mQ Tryz.func214 (by kernel_rfl)
 f319:=mQ Tryz.func215 (by kernel_rfl)
 f320:=mQ Tryz.func216 (by kernel_rfl)
 f337:=mQ Tryz.func228 (by kernel_rfl)
 f338:=mQ Tryz.func229 (by kernel_rfl)
 t0:=Tryz.underlying0
 a0:=Tryz.isAgg0
 z0:=Tryz.sizeOf0
 v0:=Tryz.zeroValue0
 t2:=Tryz.underlying2
 a2:=Tryz.isAgg2
 z2:=Tryz.sizeOf2
 v2:=Tryz.zeroValue2
 t3:=Tryz.underlying3
 a3:=Tryz.isAgg3
 z3:=Tryz.sizeOf3
 v3:=Tryz.zeroValue3
 t4:=Tryz.underlying4
 a4:=Tryz.isAgg4
 z4:=Tryz.sizeOf4
 v4:=Tryz.zeroValue4
 t5:=Tryz.underlying5
 a5:=Tryz.isAgg5
 z5:=Tryz.sizeOf5
 v5:=Tryz.zeroValue5
 t9:=Tryz.underlying9
 a9:=Tryz.isAgg9
 z9:=Tryz.sizeOf9
 v9:=Tryz.zeroValue9
 t20:=Tryz.underlying20
 a20:=Tryz.isAgg20
 z20:=Tryz.sizeOf20
 v20:=Tryz.zeroValue20
 t37:=Tryz.underlying22
 a37:=Tryz.isAgg22
 z37:=Tryz.sizeOf22
 v37:=Tryz.zeroValue22
 t46:=Tryz.underlying90
 a46:=Tryz.isAgg90
 z46:=Tryz.sizeOf90
 v46:=Tryz.zeroValue90
 t51:=Tryz.underlying221
 a51:=Tryz.isAgg221
 z51:=Tryz.sizeOf221
 v51:=Tryz.zeroValue221
 t53:=Tryz.underlying59
 a53:=Tryz.isAgg59
 z53:=Tryz.sizeOf59
 v53:=Tryz.zeroValue59
 t171:=Tryz.underlying205
 a171:=Tryz.isAgg205
 z171:=Tryz.sizeOf205
 v171:=Tryz.zeroValue205
 t173:=Tryz.underlying208
 a173:=Tryz.isAgg208
 z173:=Tryz.sizeOf208
 v173:=Tryz.zeroValue208
 t212:=Tryz.underlying228
 a212:=Tryz.isAgg228
 z212:=Tryz.sizeOf228
 v212:=Tryz.zeroValue228
 t213:=Tryz.underlying229
 a213:=Tryz.isAgg229
 z213:=Tryz.sizeOf229
 t232:=Tryz.underlying247
 a232:=Tryz.isAgg247
 z232:=Tryz.sizeOf247
 v232:=Tryz.zeroValue247
 t233:=Tryz.underlying248
 a233:=Tryz.isAgg248
 z233:=Tryz.sizeOf248
 v233:=Tryz.zeroValue248
 g17:=by kernel_rfl
 g18:=by kernel_rfl
 g19:=by kernel_rfl
 i0:=by kernel_rfl
 i2:=by kernel_rfl
 i3:=by kernel_rfl
 i4:=by kernel_rfl
 i5:=by kernel_rfl
 i9:=by kernel_rfl
 i20:=by kernel_rfl
 i37:=by kernel_rfl
 i46:=by kernel_rfl
 i51:=by kernel_rfl
 i53:=by kernel_rfl
 i171:=by kernel_rfl
 i173:=by kernel_rfl
 i212:=by kernel_rfl
 i232:=by kernel_rfl
 i233:=by kernel_rfl
 m17:=by kernel_rfl
 m18:=by kernel_rfl
 m19:=by kernel_rfl}
theorem gw{a:Option Func}{x y:Func}(h:a=some x)(k:x=y):a=some y:=h.trans (gV some k)
def Tryz.laysPI_ren:Go.Shelf.Ren:=⟨fun|174=>87|247=>125|245=>126|287=>155|279=>156|280=>157|281=>158|282=>159|321=>186|322=>187|316=>188|171=>190|205=>189|243=>211|246=>160|283=>191|284=>192|285=>193|286=>194|129=>213|317=>212|318=>214|319=>215|320=>216|337=>228|338=>229|n=>n,fun|75=>126|85=>139|167=>184|53=>59|175=>185|46=>90|168=>187|37=>22|210=>202|127=>149|145=>226|143=>224|171=>205|173=>208|212=>228|51=>221|213=>229|232=>247|233=>248|80=>114|n=>n,fun|15=>1|16=>2|17=>5|18=>6|19=>7|n=>n⟩
theorem Tryz.laysPI:Go.Proofs.LaysC.n174 Tryz.prog Tryz.laysPI_ren:={
 mixed:=by kernel_rfl
 f129:=gw Tryz.func213 (by kernel_rfl)
 f171:=gw Tryz.func190 (by kernel_rfl)
 f174:=gw Tryz.func87 (by kernel_rfl)
 f205:=gw Tryz.func189 (by kernel_rfl)
 f243:=gw Tryz.func211 (by kernel_rfl)
 f245:=gw Tryz.func126 (by kernel_rfl)
 f246:=gw Tryz.func160 (by kernel_rfl)
 f247:=gw Tryz.func125 (by kernel_rfl)
 f279:=gw Tryz.func156 (by kernel_rfl)
 f280:=gw Tryz.func157 (by kernel_rfl)
 f281:=gw Tryz.func158 (by kernel_rfl)
 f282:=gw Tryz.func159 (by kernel_rfl)
 f283:=gw Tryz.func191 (by kernel_rfl)
 f284:=gw Tryz.func192 (by kernel_rfl)
 f285:=gw Tryz.func193 (by kernel_rfl)
 f286:=gw Tryz.func194 (by kernel_rfl)
 f287:=gw Tryz.func155 (by kernel_rfl)
 f316:=gw Tryz.func188 (by kernel_rfl)
 f317:=gw Tryz.func212 (by kernel_rfl)
 f318:=gw Tryz.func214 (by kernel_rfl)
 f319:=gw Tryz.func215 (by kernel_rfl)
 f320:=gw Tryz.func216 (by kernel_rfl)
 f321:=gw Tryz.func186 (by kernel_rfl)
 f322:=gw Tryz.func187 (by kernel_rfl)
 f337:=gw Tryz.func228 (by kernel_rfl)
 f338:=gw Tryz.func229 (by kernel_rfl)
 t0:=Tryz.underlying0
 a0:=Tryz.isAgg0
 z0:=Tryz.sizeOf0
 v0:=Tryz.zeroValue0
 t2:=Tryz.underlying2
 a2:=Tryz.isAgg2
 z2:=Tryz.sizeOf2
 v2:=Tryz.zeroValue2
 t3:=Tryz.underlying3
 a3:=Tryz.isAgg3
 z3:=Tryz.sizeOf3
 v3:=Tryz.zeroValue3
 t4:=Tryz.underlying4
 a4:=Tryz.isAgg4
 z4:=Tryz.sizeOf4
 v4:=Tryz.zeroValue4
 t5:=Tryz.underlying5
 a5:=Tryz.isAgg5
 z5:=Tryz.sizeOf5
 v5:=Tryz.zeroValue5
 t9:=Tryz.underlying9
 a9:=Tryz.isAgg9
 z9:=Tryz.sizeOf9
 v9:=Tryz.zeroValue9
 t20:=Tryz.underlying20
 a20:=Tryz.isAgg20
 z20:=Tryz.sizeOf20
 v20:=Tryz.zeroValue20
 t21:=Tryz.underlying21
 a21:=Tryz.isAgg21
 z21:=Tryz.sizeOf21
 v21:=Tryz.zeroValue21
 t37:=Tryz.underlying22
 a37:=Tryz.isAgg22
 z37:=Tryz.sizeOf22
 v37:=Tryz.zeroValue22
 t46:=Tryz.underlying90
 a46:=Tryz.isAgg90
 z46:=Tryz.sizeOf90
 v46:=Tryz.zeroValue90
 t51:=Tryz.underlying221
 a51:=Tryz.isAgg221
 z51:=Tryz.sizeOf221
 v51:=Tryz.zeroValue221
 t53:=Tryz.underlying59
 a53:=Tryz.isAgg59
 z53:=Tryz.sizeOf59
 v53:=Tryz.zeroValue59
 t75:=Tryz.underlying126
 a75:=Tryz.isAgg126
 z75:=Tryz.sizeOf126
 v75:=Tryz.zeroValue126
 t85:=Tryz.underlying139
 a85:=Tryz.isAgg139
 z85:=Tryz.sizeOf139
 v85:=Tryz.zeroValue139
 t127:=Tryz.underlying149
 a127:=Tryz.isAgg149
 z127:=Tryz.sizeOf149
 v127:=Tryz.zeroValue149
 t143:=Tryz.underlying224
 a143:=Tryz.isAgg224
 z143:=Tryz.sizeOf224
 v143:=Tryz.zeroValue224
 t145:=Tryz.underlying226
 a145:=Tryz.isAgg226
 z145:=Tryz.sizeOf226
 v145:=Tryz.zeroValue226
 t167:=Tryz.underlying184
 a167:=Tryz.isAgg184
 z167:=Tryz.sizeOf184
 v167:=Tryz.zeroValue184
 t168:=Tryz.underlying187
 a168:=Tryz.isAgg187
 z168:=Tryz.sizeOf187
 v168:=Tryz.zeroValue187
 t171:=Tryz.underlying205
 a171:=Tryz.isAgg205
 z171:=Tryz.sizeOf205
 v171:=Tryz.zeroValue205
 t173:=Tryz.underlying208
 a173:=Tryz.isAgg208
 z173:=Tryz.sizeOf208
 v173:=Tryz.zeroValue208
 t175:=Tryz.underlying185
 a175:=Tryz.isAgg185
 z175:=Tryz.sizeOf185
 v175:=Tryz.zeroValue185
 t210:=Tryz.underlying202
 a210:=Tryz.isAgg202
 z210:=Tryz.sizeOf202
 v210:=Tryz.zeroValue202
 t212:=Tryz.underlying228
 a212:=Tryz.isAgg228
 z212:=Tryz.sizeOf228
 v212:=Tryz.zeroValue228
 t213:=Tryz.underlying229
 a213:=Tryz.isAgg229
 z213:=Tryz.sizeOf229
 t232:=Tryz.underlying247
 a232:=Tryz.isAgg247
 z232:=Tryz.sizeOf247
 v232:=Tryz.zeroValue247
 t233:=Tryz.underlying248
 a233:=Tryz.isAgg248
 z233:=Tryz.sizeOf248
 v233:=Tryz.zeroValue248
 g15:=by kernel_rfl
 g16:=by kernel_rfl
 g17:=by kernel_rfl
 g18:=by kernel_rfl
 g19:=by kernel_rfl
 t80:=Tryz.underlying114
 a80:=Tryz.isAgg114
 z80:=Tryz.sizeOf114
 v80:=Tryz.zeroValue114
 i0:=by kernel_rfl
 i2:=by kernel_rfl
 i3:=by kernel_rfl
 i4:=by kernel_rfl
 i5:=by kernel_rfl
 i9:=by kernel_rfl
 i20:=by kernel_rfl
 i21:=by kernel_rfl
 i37:=by kernel_rfl
 i46:=by kernel_rfl
 i51:=by kernel_rfl
 i53:=by kernel_rfl
 i75:=by kernel_rfl
 i80:=by kernel_rfl
 i85:=by kernel_rfl
 i127:=by kernel_rfl
 i143:=by kernel_rfl
 i145:=by kernel_rfl
 i167:=by kernel_rfl
 i168:=by kernel_rfl
 i171:=by kernel_rfl
 i173:=by kernel_rfl
 i175:=by kernel_rfl
 i210:=by kernel_rfl
 i212:=by kernel_rfl
 i232:=by kernel_rfl
 i233:=by kernel_rfl
 m15:=by kernel_rfl
 m16:=by kernel_rfl
 m17:=by kernel_rfl
 m18:=by kernel_rfl
 m19:=by kernel_rfl
 c0:=by kernel_rfl
 c2:=by kernel_rfl
 c3:=by kernel_rfl
 c4:=by kernel_rfl
 c5:=by kernel_rfl
 c9:=by kernel_rfl
 c20:=by kernel_rfl
 c21:=by kernel_rfl
 c37:=by kernel_rfl
 c46:=by kernel_rfl
 c51:=by kernel_rfl
 c53:=by kernel_rfl
 c75:=by kernel_rfl
 c80:=by kernel_rfl
 c85:=by kernel_rfl
 c127:=by kernel_rfl
 c143:=by kernel_rfl
 c145:=by kernel_rfl
 c167:=by kernel_rfl
 c168:=by kernel_rfl
 c171:=by kernel_rfl
 c173:=by kernel_rfl
 c175:=by kernel_rfl
 c210:=by kernel_rfl
 c212:=by kernel_rfl
 c213:=by kernel_rfl
 c232:=by kernel_rfl
 c233:=by kernel_rfl}
theorem kN{a:Option Func}{x y:Func}(h:a=some x)(k:x=y):a=some y:=h.trans (gV some k)
def Tryz.laysSplit_ren:Go.Shelf.Ren:=⟨fun|146=>54|221=>86|268=>122|138=>123|143=>124|195=>151|197=>152|218=>153|219=>154|260=>181|217=>182|225=>183|224=>184|267=>185|266=>209|314=>210|n=>n,fun|31=>25|105=>181|46=>90|119=>217|139=>220|138=>219|146=>222|51=>221|n=>n,fun|1=>0|n=>n⟩
theorem Tryz.laysSplit:Go.Proofs.Lays.n146 Tryz.prog Tryz.laysSplit_ren:={
 mixed:=by kernel_rfl
 f138:=kN Tryz.func123 (by kernel_rfl)
 f143:=kN Tryz.func124 (by kernel_rfl)
 f146:=kN Tryz.func54 (by kernel_rfl)
 f195:=kN Tryz.func151 (by kernel_rfl)
 f197:=kN Tryz.func152 (by kernel_rfl)
 f217:=kN Tryz.func182 (by kernel_rfl)
 f218:=kN Tryz.func153 (by kernel_rfl)
 f219:=kN Tryz.func154 (by kernel_rfl)
 f221:=kN Tryz.func86 (by kernel_rfl)
 f224:=kN Tryz.func184 (by kernel_rfl)
 f225:=kN Tryz.func183 (by kernel_rfl)
 f260:=kN Tryz.func181 (by kernel_rfl)
 f266:=kN Tryz.func209 (by kernel_rfl)
 f267:=kN Tryz.func185 (by kernel_rfl)
 f268:=kN Tryz.func122 (by kernel_rfl)
 f314:=kN Tryz.func210 (by kernel_rfl)
 t0:=Tryz.underlying0
 a0:=Tryz.isAgg0
 z0:=Tryz.sizeOf0
 v0:=Tryz.zeroValue0
 t3:=Tryz.underlying3
 a3:=Tryz.isAgg3
 z3:=Tryz.sizeOf3
 v3:=Tryz.zeroValue3
 t4:=Tryz.underlying4
 a4:=Tryz.isAgg4
 z4:=Tryz.sizeOf4
 v4:=Tryz.zeroValue4
 t5:=Tryz.underlying5
 a5:=Tryz.isAgg5
 z5:=Tryz.sizeOf5
 v5:=Tryz.zeroValue5
 t9:=Tryz.underlying9
 a9:=Tryz.isAgg9
 z9:=Tryz.sizeOf9
 v9:=Tryz.zeroValue9
 t21:=Tryz.underlying21
 a21:=Tryz.isAgg21
 z21:=Tryz.sizeOf21
 v21:=Tryz.zeroValue21
 t31:=Tryz.underlying25
 a31:=Tryz.isAgg25
 z31:=Tryz.sizeOf25
 v31:=Tryz.zeroValue25
 t46:=Tryz.underlying90
 a46:=Tryz.isAgg90
 z46:=Tryz.sizeOf90
 v46:=Tryz.zeroValue90
 t51:=Tryz.underlying221
 a51:=Tryz.isAgg221
 z51:=Tryz.sizeOf221
 v51:=Tryz.zeroValue221
 t105:=Tryz.underlying181
 a105:=Tryz.isAgg181
 z105:=Tryz.sizeOf181
 v105:=Tryz.zeroValue181
 t119:=Tryz.underlying217
 a119:=Tryz.isAgg217
 z119:=Tryz.sizeOf217
 t138:=Tryz.underlying219
 a138:=Tryz.isAgg219
 z138:=Tryz.sizeOf219
 v138:=Tryz.zeroValue219
 t139:=Tryz.underlying220
 a139:=Tryz.isAgg220
 z139:=Tryz.sizeOf220
 v139:=Tryz.zeroValue220
 t146:=Tryz.underlying222
 a146:=Tryz.isAgg222
 z146:=Tryz.sizeOf222
 v146:=Tryz.zeroValue222
 g1:=by kernel_rfl
 g3:=by kernel_rfl
 g4:=by kernel_rfl}
namespace iG
theorem agm{S:Nat->Prop}{w:World}(hB:Go.V.D.base.inv S w):Lib.TabIs Tryz.prog w "internal/strconv.uint64pow10" .u64 Lib.pow10Tab:=by
 obtain⟨-,-,⟨T,fr,hT⟩,-⟩:=hB;have hg:Tryz.prog.globalNamed "internal/strconv.uint64pow10" =some 5:=by kernel_rfl
 unfold Lib.TabIs World.var?;rw[hg];simp[hT]
set_option maxRecDepth 100000 in
theorem RQ(n:Int)(h0: -9223372036854775808<=n)(h1:n<=9223372036854775807)(w:World)(htab:Lib.TabIs Tryz.prog w "internal/strconv.uint64pow10" .u64 Lib.pow10Tab):
 Calls Tryz.prog 88 #[.int .i64 n] w fun e w'=>e=.returned (.string ⟨(Lib.itoa n).toArray⟩)/\Below w.heap.size w w':=by
 go_enter Tryz.func88,Tryz.ntmps88
 go_wp2_with (go_at_call 127;refine(Any.strconv_FormatInt_10 Tryz.laysFI n h0 h1 _ htab).mono ?_;rintro e w' ⟨rfl,k,os,rfl⟩)
 go_ret
 exact⟨rfl,Lib.below_grow _ _ (cq _) _ _⟩
theorem tab_below{w w':World}(h:Below w.heap.size w w')(htab:Lib.TabIs Tryz.prog w "internal/strconv.uint64pow10" .u64 Lib.pow10Tab):Lib.TabIs Tryz.prog w' "internal/strconv.uint64pow10" .u64 Lib.pow10Tab:=
 Lib.tabBelow_of_tabIs htab w' h
theorem agn{s:List UInt8}{v:Int}(h:Lib.parseIntB 64 s=.ok v): -9223372036854775808<=v/\v<=9223372036854775807:=by
 obtain⟨a,b⟩:=Lib.parseIntB_bounds h;have e:((2^(64-1):Nat):Int)=9223372036854775808:=by decide
 rw[e]at a b;omega
set_option maxRecDepth 100000 in
theorem agp(s:List UInt8)(hl:s.length<=281474976710656)(w:World)(htab:Lib.TabIs Tryz.prog w "internal/strconv.uint64pow10" .u64 Lib.pow10Tab)
 (ts tr:TypeId) (ps pr:Value) (hS:w.cell? ⟨1,0,none⟩=some (.iface ts ps)) (hR:w.cell? ⟨2,0,none⟩=some (.iface tr pr)):
 Calls Tryz.prog 55 #[.string ⟨s.toArray⟩] w fun e w'=>e=.returned (.tuple #[.int .i64 (M.d5 s).1,.bool (M.d5 s).2])/\Below w.heap.size w w':=by
 have hsz:(ByteArray.mk s.toArray).size=s.length:=pI;have hd:(ByteArray.mk s.toArray).data.toList=s:=by simp
 cases hp:Lib.parseIntB 64 s with
 |ok v=>
  obtain⟨v0,v1⟩:=agn hp;by_cases he:Lib.itoa v=s
  ·have hr:M.d5 s=(v,true):=by unfold M.d5;rw[hp];simp only;rw[bf he]
   rw[hr]
   go_enter Tryz.func55,Tryz.ntmps55
   go_wp2_with (go_at_call 87;refine(Any.strconv_ParseInt_10_at64_ok Tryz.laysPI ⟨s.toArray⟩ (by omega) v (by rw[hd];exact hp) _).mono ?_;rintro e W1 ⟨rfl,hW⟩)
   have hb1:Below w.heap.size w W1:=by
    rcases hW with rfl|⟨t,rfl⟩
    ·exact Below.refl _ _
    ·exact Lib.bytesWorld_below _ _ _
   clear hW
   go_wp2_with (go_at_call 88;refine(RQ v v0 v1 _ ?_).mono ?_)
   ·exact tab_below hb1 htab
   rintro e W2 ⟨rfl,hb2⟩
   have hb:Below w.heap.size w W2:=hb1.trans (hb2.mono hb1.size);rw[he]
   go_wp2
   go_ret2
   exact⟨rfl,hb⟩
  ·have hr:M.d5 s=(0,false):=by unfold M.d5;rw[hp];simp only;rw[bg he]
   rw[hr]
   go_enter Tryz.func55,Tryz.ntmps55
   go_wp2_with (go_at_call 87;refine(Any.strconv_ParseInt_10_at64_ok Tryz.laysPI ⟨s.toArray⟩ (by omega) v (by rw[hd];exact hp) _).mono ?_;rintro e W1 ⟨rfl,hW⟩)
   have hb1:Below w.heap.size w W1:=by
    rcases hW with rfl|⟨t,rfl⟩
    ·exact Below.refl _ _
    ·exact Lib.bytesWorld_below _ _ _
   clear hW
   go_wp2_with (go_at_call 88;refine(RQ v v0 v1 _ ?_).mono ?_)
   ·exact tab_below hb1 htab
   rintro e W2 ⟨rfl,hb2⟩
   have hb:Below w.heap.size w W2:=hb1.trans (hb2.mono hb1.size);have hne:(Lib.itoa v==s)=false:=cO.2 he
   go_wp2
   go_ret2
   exact⟨rfl,hb⟩
 |range=>
  have hr:M.d5 s=(0,false):=by unfold M.d5;rw[hp]
  rw[hr]
  go_enter Tryz.func55,Tryz.ntmps55
  go_wp2_with (go_at_call 87;refine(Any.strconv_ParseInt_10_at64_range Tryz.laysPI ⟨s.toArray⟩ (by omega) (by rw[hd];exact hp) _ _ hR (Or.inr ⟨tr,pr,rfl⟩)).mono ?_;rintro e W1 ⟨N,rfl,-,-,hb⟩)
  go_wp2
  go_ret2
  exact⟨rfl,hb⟩
 |_=>
  have hr:M.d5 s=(0,false):=by unfold M.d5;rw[hp]
  rw[hr]
  go_enter Tryz.func55,Tryz.ntmps55
  go_wp2_with (go_at_call 87;refine(Any.strconv_ParseInt_10_at64_syntax Tryz.laysPI ⟨s.toArray⟩ (by omega) (by rw[hd];exact hp) _ _ hS (Or.inr ⟨ts,ps,rfl⟩)).mono ?_;rintro e W1 ⟨N,rfl,-,-,hb⟩)
  go_wp2
  go_ret2
  exact⟨rfl,hb⟩
theorem RR{P:Program}{f:FuncId}{args:List (AV K)}{r:AV K}(hf:vz P f)
 (h:∀(S:Nat->Prop)(w:World)(vals:List Value),(∀b,S b->b<w.heap.size)->Go.V.D.base.inv S w->bc Go.V.D [] S w args vals->Calls P f vals.toArray w fun e w'=>∃u,e=.returned u/\Below w.heap.size w w'/\∃S':Nat->Prop,(∀b,S b->S' b)/\(∀b,S' b->S b\/(w.heap.size<=b/\b<w'.heap.size))/\Rep Go.V.D [] S' w' r u):RC Go.V.D P f args [] r []:=by
 refine⟨hf,fun ρ S w vals hs ha=>?_⟩;have hρ:ρ=[]:=by have:=hs.len;simpa using this
 subst hρ;have own:∀(w:World) b,¬Own Go.V.D w [] ([]:List (Ob K)) b:=fun w b hb=>by
  obtain⟨h,o,r,ho,_⟩:=hb;simp at ho
 refine(h S w vals hs.slt hs.base ha).mono ?_
 rintro e w' ⟨u,rfl,hb,S',h1,h2,h3⟩
 refine⟨u,[],S',rfl,⟨rfl,fun h o r ho _=>by simp at ho,fun h h' o o' r r' b ho=>by simp at ho,fun b hO=>absurd hO (own _ b),fun b hO=>?_,Go.V.D.base.mono h1 (fun b h=>hb.block b (hs.slt b h)) hs.base⟩,h3,
  ⟨hb.os,hb.tape,hb.output,hb.size,fun b hlt _=>hb.block b hlt,fun b hO=>absurd hO (own _ b),h1,fun b hO=>?_,fun h hh=>rfl⟩⟩
 ·rcases h2 b hO with h|h
  ·exact kC (hs.slt b h) hb.size
  ·exact h.2
 ·rcases h2 b hO with h|h
  ·exact .inl h
  ·exact .inr (.inr h.1)
theorem agq{s sep:List UInt8}{r:List (List UInt8)}(h:M.strings_Split s sep=some r):sep=[46]/\s.length<4294967281/\cQ.ef s=r:=by
 unfold M.strings_Split at h;by_cases h1:sep=[46]
 ·by_cases h2:s.length<4294967281
  ·rw[h1]at h;simp only[h2,eG,cn,bQ,ad]at h;exact⟨h1,h2,ie h⟩
  ·simp[h2]at h
 ·have:(sep==[46])=false:=cO.2 h1;rw[this]at h;simp at h
theorem agr:(Lt M.nz).Ok Go.V.D Tryz.prog:=by
 intro x r hr;obtain⟨hl,hv⟩:List.length (α:=UInt8) x.1.1<=281474976710656/\M.d5 x.1.1=r:=by
  change M.nz x.1.1=some r at hr;unfold M.nz at hr;by_cases h:List.length (α:=UInt8) x.1.1<=281474976710656
  ·simp only[h,eG,ad]at hr;exact⟨h,ie hr⟩
  ·simp[h]at hr
 subst hv;refine RR ⟨Tryz.f55,Tryz.func55,by kernel_rfl,by kernel_rfl⟩ fun S w vals hS hB ha=>?_
 obtain⟨X,rfl,hX⟩:=AM (x:=.str x.1.1) ha;rw[iS hX];obtain⟨-,-,-,⟨ts,ps,hs⟩,⟨tr,pr,hr2⟩⟩:=id hB;refine(agp _ hl w (agm hB) ts tr ps pr hs hr2).mono ?_
 rintro e w' ⟨rfl,hb⟩
 exact⟨_,rfl,hb,S,fun _ h=>h,fun _ h=>.inl h,.bA (l:=[.int .i64 _,.bool _]) (vs:=[_,_]) rfl (bc.cons (.int _ _) (.cons (.bool _) .nil)).2⟩
set_option maxRecDepth 100000 in
theorem ags(s:List UInt8)(hl:s.length<4294967281)(m:Int)(w:World)(hm:w.cell? ⟨0,0,none⟩=some (.int .i64 m)):
 Calls Tryz.prog 54 #[.string ⟨s.toArray⟩,.string ⟨#[46]⟩] w fun e w'=>e=.returned (.slice (some ⟨w.heap.size,0,none⟩) (cQ.ef s).length (cQ.ef s).length)/\w'=w.alloc (.cells ((cQ.ef s).map encStr).toArray 9):=by
 have h:=Any.strings_Split Tryz.laysSplit (by kernel_rfl) ⟨s.toArray⟩ ⟨#[46]⟩ m w (by show s.toArray.size<_;simpa using hl) hm (by decide);have e1:=cQ.adm ⟨s.toArray⟩ ⟨#[46]⟩ rfl;have e2:(ByteArray.mk s.toArray).data.toList=s:=by simp
 rw[e2]at e1;have e3:(Lib.splitB ⟨#[46]⟩ 0 (Lib.countB ⟨s.toArray⟩ ⟨#[46]⟩) ⟨s.toArray⟩).map Value.string=(cQ.ef s).map encStr:=by
  rw[<-e1,List.map_map];refine List.map_congr_left fun x _=>?_
  show Value.string x=encStr x.data.toList
  simp[encStr]
 have e4:Lib.countB ⟨s.toArray⟩ ⟨#[46]⟩+1=(cQ.ef s).length:=by
  rw[<-e1,eQ,Lib.splitB_all ⟨#[46]⟩ (by decide) 0 _ ⟨s.toArray⟩ rfl]
 rw[e3,e4]at h;exact h
theorem agt:(Lu M.strings_Split).Ok Go.V.D Tryz.prog:=by
 intro x r hr;obtain⟨hsep,hl,hv⟩:=agq (s:=x.1.1) (sep:=x.1.2.1) hr;subst hv;refine RR ⟨Tryz.f54,Tryz.func54,by kernel_rfl,by kernel_rfl⟩ fun S w vals hS hB ha=>?_
 obtain⟨X,r1,rfl,hX,hr1⟩:=bc.gz (v:=.str x.1.1) (l:=[.str x.1.2.1]) ha;obtain⟨Y,r2,rfl,hY,hr2⟩:=hr1.gz;rw[hr2.oJ,iS hX,iS hY,hsep];obtain⟨-,⟨m,hm⟩,-⟩:=id hB;refine(ags _ hl m w hm).mono ?_
 rintro e w' ⟨rfl,rfl⟩
 generalize cQ.ef x.1.1=zs;refine⟨_,rfl,(Below.refl _ w).alloc (cq _) _,fun b=>S b\/b=w.heap.size,fun _ h=>.inl h,fun b h=>h.imp id fun e=>by subst e;exact⟨cq _,by simp⟩,?_⟩;refine Rep.ax (D:=Go.V.D) (c:=U.str) (l:=zs) (fun i=>[encStr (zs[i]?.getD [])]) (Or.inr rfl) (cq _) (fun i y hy=>rfl) (fun i hi j v hv=>?_) (fun i y hy j v u hv hu=>?_)
 ·cases j with
  |zero=>
   simp at hv;subst hv;have hz:zs[i]?=some zs[i]:=cJ hi;have:(w.alloc (.cells (zs.map encStr).toArray 9)).cell? ⟨w.heap.size,0+i*K.sz U.str+0,none⟩=some (encStr zs[i]):=by
    have e:0+i*K.sz U.str+0=i:=by show 0+i*1+0=i;omega
    rw[e];have hn:(w.alloc (.cells (zs.map encStr).toArray 9)).heap[w.heap.size]?=some (.cells (zs.map encStr).toArray 9 (0,0)):=vx _ _;simp only[World.cell?,hn];simp[hi]
   rw[this,hz];rfl
  |succ j=>simp at hv
 ·cases j with
  |zero=>
   simp at hu;subst hu;have:v=.str y:=by have:=hv;simp only[D,La,kg,tG,Sh.encs,List.getElem?_cons_zero,aw]at this;exact this.symm
   subst this;rw[hy];exact .str _
  |succ j=>simp at hu
end iG
end Go.Proofs
theorem agu:(Lt M.nz).Ok Go.V.D Go.Proofs.Tryz.prog:=Go.Proofs.iG.agr
theorem agv:(Lu M.strings_Split).Ok Go.V.D Go.Proofs.Tryz.prog:=Go.Proofs.iG.agt
