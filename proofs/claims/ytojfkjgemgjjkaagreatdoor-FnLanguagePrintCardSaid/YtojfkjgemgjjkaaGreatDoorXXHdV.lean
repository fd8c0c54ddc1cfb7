/-
  The contracts of the program's decimals and of strings.Split at a dot.
-/
import Derived.Test.YtojfkjgemgjjkaaGreatDoorXXhand4
import Derived.Shelf.Abstract
import Derived.Shelf.Strconv.Itoa4
import Derived.Shelf.Strconv.ParseIntPublic10
import Derived.Shelf.Strings.Split
import Derived.Lib.AppendIntMem
import Derived.Lib.ParseIntBTie
import Derived.Lib.LaidTab
import Derived.Stop.IfaceNil
import Derived.WalkKit
import Derived.BigCall
import Derived.Ground.NamesProg
import Derived.Test.YtojfkjgemgjjkaaGreatDoorProg
set_option linter.unusedVariables false
noncomputable def apW(m:Int->Option (List UInt8)):Go.V.aM Go.V.K:={f:=158,sh:=⟨[.int .i64],[]⟩,R:=List UInt8,run:=fun x=>m x.1.1,dflt:=default,out:=fun r=>(Go.V.Sh.enc Go.V.D (.str) r,Go.V.aU.encs Go.V.D [] ())}
noncomputable def KN(m:List UInt8->Option (Int×Bool)):Go.V.aM Go.V.K:={f:=136,sh:=⟨[.str],[]⟩,R:=Int×Bool,run:=fun x=>m x.1.1,dflt:=default,out:=fun r=>(Go.V.Sh.enc Go.V.D (.bB [.int .i64,.bool]) (r.1,(r.2,())),Go.V.aU.encs Go.V.D [] ())}
noncomputable def KO(m:List UInt8->List UInt8->Option (List (List UInt8))):Go.V.aM Go.V.K:={f:=135,sh:=⟨[.str,.str],[]⟩,R:=List (List UInt8),run:=fun x=>m x.1.1 x.1.2.1,dflt:=default,out:=fun r=>(Go.V.Sh.enc Go.V.D (.ax Go.V.U.str) r,Go.V.aU.encs Go.V.D [] ())}
namespace Go.Proofs
open Go.RowKit Go.Shelf Go.V Go.Lib Go.Sort
theorem mP{a:Option Func}{x y:Func}(h:a=some x)(k:x=y):a=some y:=h.trans (ib some k)
def Tryz.laysFI_ren:Go.Shelf.Ren:=⟨fun|173=>184|246=>201|283=>212|284=>213|285=>214|286=>215|129=>170|317=>218|318=>219|319=>220|320=>221|337=>222|338=>223|n=>n,fun|171=>225|53=>63|37=>22|173=>227|212=>239|51=>190|213=>240|46=>134|232=>242|233=>243|n=>n,fun|17=>5|18=>6|19=>7|n=>n⟩
theorem Tryz.laysFI:Go.Proofs.LaysM.n173 Tryz.prog Tryz.laysFI_ren:={
 mixed:=by kernel_rfl
 f129:=mP Tryz.func170 (by kernel_rfl)
 f173:=mP Tryz.func184 (by kernel_rfl)
 f246:=mP Tryz.func201 (by kernel_rfl)
 f283:=mP Tryz.func212 (by kernel_rfl)
 f284:=mP Tryz.func213 (by kernel_rfl)
 f285:=mP Tryz.func214 (by kernel_rfl)
 f286:=mP Tryz.func215 (by kernel_rfl)
 f317:=mP Tryz.func218 (by kernel_rfl)
 f318:=mP Tryz.func219 (by kernel_rfl)
 f319:=mP Tryz.func220 (by kernel_rfl)
 f320:=mP Tryz.func221 (by kernel_rfl)
 f337:=mP Tryz.func222 (by kernel_rfl)
 f338:=mP Tryz.func223 (by kernel_rfl)
 t0:=Tryz.underlying0
 a0:=Tryz.isAgg0
 z0:=Tryz.sizeOf0
 v0:=Tryz.zeroValue0
 t2:=Tryz.underlying2
 a2:=Tryz.isAgg2
 z2:=Tryz.sizeOf2
 v2:=Tryz.zeroValue2
 t3:=Tryz.underlying3
 a3:=Tryz.isAgg3
 z3:=Tryz.sizeOf3
 v3:=Tryz.zeroValue3
 t4:=Tryz.underlying4
 a4:=Tryz.isAgg4
 z4:=Tryz.sizeOf4
 v4:=Tryz.zeroValue4
 t5:=Tryz.underlying5
 a5:=Tryz.isAgg5
 z5:=Tryz.sizeOf5
 v5:=Tryz.zeroValue5
 t9:=Tryz.underlying9
 a9:=Tryz.isAgg9
 z9:=Tryz.sizeOf9
 v9:=Tryz.zeroValue9
 t20:=Tryz.underlying20
 a20:=Tryz.isAgg20
 z20:=Tryz.sizeOf20
 v20:=Tryz.zeroValue20
 t37:=Tryz.underlying22
 a37:=Tryz.isAgg22
 z37:=Tryz.sizeOf22
 v37:=Tryz.zeroValue22
 t46:=Tryz.underlying134
 a46:=Tryz.isAgg134
 z46:=Tryz.sizeOf134
 v46:=Tryz.zeroValue134
 t51:=Tryz.underlying190
 a51:=Tryz.isAgg190
 z51:=Tryz.sizeOf190
 v51:=Tryz.zeroValue190
 t53:=Tryz.underlying63
 a53:=Tryz.isAgg63
 z53:=Tryz.sizeOf63
 v53:=Tryz.zeroValue63
 t171:=Tryz.underlying225
 a171:=Tryz.isAgg225
 z171:=Tryz.sizeOf225
 v171:=Tryz.zeroValue225
 t173:=Tryz.underlying227
 a173:=Tryz.isAgg227
 z173:=Tryz.sizeOf227
 v173:=Tryz.zeroValue227
 t212:=Tryz.underlying239
 a212:=Tryz.isAgg239
 z212:=Tryz.sizeOf239
 v212:=Tryz.zeroValue239
 t213:=Tryz.underlying240
 a213:=Tryz.isAgg240
 z213:=Tryz.sizeOf240
 t232:=Tryz.underlying242
 a232:=Tryz.isAgg242
 z232:=Tryz.sizeOf242
 v232:=Tryz.zeroValue242
 t233:=Tryz.underlying243
 a233:=Tryz.isAgg243
 z233:=Tryz.sizeOf243
 v233:=Tryz.zeroValue243
 g17:=by kernel_rfl
 g18:=by kernel_rfl
 g19:=by kernel_rfl
 i0:=by kernel_rfl
 i2:=by kernel_rfl
 i3:=by kernel_rfl
 i4:=by kernel_rfl
 i5:=by kernel_rfl
 i9:=by kernel_rfl
 i20:=by kernel_rfl
 i37:=by kernel_rfl
 i46:=by kernel_rfl
 i51:=by kernel_rfl
 i53:=by kernel_rfl
 i171:=by kernel_rfl
 i173:=by kernel_rfl
 i212:=by kernel_rfl
 i232:=by kernel_rfl
 i233:=by kernel_rfl
 m17:=by kernel_rfl
 m18:=by kernel_rfl
 m19:=by kernel_rfl}
theorem gJ{a:Option Func}{x y:Func}(h:a=some x)(k:x=y):a=some y:=h.trans (ib some k)
def Tryz.laysPI_ren:Go.Shelf.Ren:=⟨fun|174=>157|247=>182|245=>183|287=>196|279=>197|280=>198|281=>199|282=>200|321=>207|322=>208|316=>209|171=>211|205=>210|243=>217|246=>201|283=>212|284=>213|285=>214|286=>215|129=>170|317=>218|318=>219|319=>220|320=>221|337=>222|338=>223|n=>n,fun|75=>114|85=>178|167=>210|53=>63|175=>211|46=>134|168=>213|37=>22|210=>222|127=>146|145=>237|143=>235|171=>225|173=>227|212=>239|51=>190|213=>240|232=>242|233=>243|80=>74|n=>n,fun|15=>1|16=>2|17=>5|18=>6|19=>7|n=>n⟩
theorem Tryz.laysPI:Go.Proofs.LaysC.n174 Tryz.prog Tryz.laysPI_ren:={
 mixed:=by kernel_rfl
 f129:=gJ Tryz.func170 (by kernel_rfl)
 f171:=gJ Tryz.func211 (by kernel_rfl)
 f174:=gJ Tryz.func157 (by kernel_rfl)
 f205:=gJ Tryz.func210 (by kernel_rfl)
 f243:=gJ Tryz.func217 (by kernel_rfl)
 f245:=gJ Tryz.func183 (by kernel_rfl)
 f246:=gJ Tryz.func201 (by kernel_rfl)
 f247:=gJ Tryz.func182 (by kernel_rfl)
 f279:=gJ Tryz.func197 (by kernel_rfl)
 f280:=gJ Tryz.func198 (by kernel_rfl)
 f281:=gJ Tryz.func199 (by kernel_rfl)
 f282:=gJ Tryz.func200 (by kernel_rfl)
 f283:=gJ Tryz.func212 (by kernel_rfl)
 f284:=gJ Tryz.func213 (by kernel_rfl)
 f285:=gJ Tryz.func214 (by kernel_rfl)
 f286:=gJ Tryz.func215 (by kernel_rfl)
 f287:=gJ Tryz.func196 (by kernel_rfl)
 f316:=gJ Tryz.func209 (by kernel_rfl)
 f317:=gJ Tryz.func218 (by kernel_rfl)
 f318:=gJ Tryz.func219 (by kernel_rfl)
 f319:=gJ Tryz.func220 (by kernel_rfl)
 f320:=gJ Tryz.func221 (by kernel_rfl)
 f321:=gJ Tryz.func207 (by kernel_rfl)
 f322:=gJ Tryz.func208 (by kernel_rfl)
 f337:=gJ Tryz.func222 (by kernel_rfl)
 f338:=gJ Tryz.func223 (by kernel_rfl)
 t0:=Tryz.underlying0
 a0:=Tryz.isAgg0
 z0:=Tryz.sizeOf0
 v0:=Tryz.zeroValue0
 t2:=Tryz.underlying2
 a2:=Tryz.isAgg2
 z2:=Tryz.sizeOf2
 v2:=Tryz.zeroValue2
 t3:=Tryz.underlying3
 a3:=Tryz.isAgg3
 z3:=Tryz.sizeOf3
 v3:=Tryz.zeroValue3
 t4:=Tryz.underlying4
 a4:=Tryz.isAgg4
 z4:=Tryz.sizeOf4
 v4:=Tryz.zeroValue4
 t5:=Tryz.underlying5
 a5:=Tryz.isAgg5
 z5:=Tryz.sizeOf5
 v5:=Tryz.zeroValue5
 t9:=Tryz.underlying9
 a9:=Tryz.isAgg9
 z9:=Tryz.sizeOf9
 v9:=Tryz.zeroValue9
 t20:=Tryz.underlying20
 a20:=Tryz.isAgg20
 z20:=Tryz.sizeOf20
 v20:=Tryz.zeroValue20
 t21:=Tryz.underlying21
 a21:=Tryz.isAgg21
 z21:=Tryz.sizeOf21
 v21:=Tryz.zeroValue21
 t37:=Tryz.underlying22
 a37:=Tryz.isAgg22
 z37:=Tryz.sizeOf22
 v37:=Tryz.zeroValue22
 t46:=Tryz.underlying134
 a46:=Tryz.isAgg134
 z46:=Tryz.sizeOf134
 v46:=Tryz.zeroValue134
 t51:=Tryz.underlying190
 a51:=Tryz.isAgg190
 z51:=Tryz.sizeOf190
 v51:=Tryz.zeroValue190
 t53:=Tryz.underlying63
 a53:=Tryz.isAgg63
 z53:=Tryz.sizeOf63
 v53:=Tryz.zeroValue63
 t75:=Tryz.underlying114
 a75:=Tryz.isAgg114
 z75:=Tryz.sizeOf114
 v75:=Tryz.zeroValue114
 t85:=Tryz.underlying178
 a85:=Tryz.isAgg178
 z85:=Tryz.sizeOf178
 v85:=Tryz.zeroValue178
 t127:=Tryz.underlying146
 a127:=Tryz.isAgg146
 z127:=Tryz.sizeOf146
 v127:=Tryz.zeroValue146
 t143:=Tryz.underlying235
 a143:=Tryz.isAgg235
 z143:=Tryz.sizeOf235
 v143:=Tryz.zeroValue235
 t145:=Tryz.underlying237
 a145:=Tryz.isAgg237
 z145:=Tryz.sizeOf237
 v145:=Tryz.zeroValue237
 t167:=Tryz.underlying210
 a167:=Tryz.isAgg210
 z167:=Tryz.sizeOf210
 v167:=Tryz.zeroValue210
 t168:=Tryz.underlying213
 a168:=Tryz.isAgg213
 z168:=Tryz.sizeOf213
 v168:=Tryz.zeroValue213
 t171:=Tryz.underlying225
 a171:=Tryz.isAgg225
 z171:=Tryz.sizeOf225
 v171:=Tryz.zeroValue225
 t173:=Tryz.underlying227
 a173:=Tryz.isAgg227
 z173:=Tryz.sizeOf227
 v173:=Tryz.zeroValue227
 t175:=Tryz.underlying211
 a175:=Tryz.isAgg211
 z175:=Tryz.sizeOf211
 v175:=Tryz.zeroValue211
 t210:=Tryz.underlying222
 a210:=Tryz.isAgg222
 z210:=Tryz.sizeOf222
 v210:=Tryz.zeroValue222
 t212:=Tryz.underlying239
 a212:=Tryz.isAgg239
 z212:=Tryz.sizeOf239
 v212:=Tryz.zeroValue239
 t213:=Tryz.underlying240
 a213:=Tryz.isAgg240
 z213:=Tryz.sizeOf240
 t232:=Tryz.underlying242
 a232:=Tryz.isAgg242
 z232:=Tryz.sizeOf242
 v232:=Tryz.zeroValue242
 t233:=Tryz.underlying243
 a233:=Tryz.isAgg243
 z233:=Tryz.sizeOf243
 v233:=Tryz.zeroValue243
 g15:=by kernel_rfl
 g16:=by kernel_rfl
 g17:=by kernel_rfl
 g18:=by kernel_rfl
 g19:=by kernel_rfl
 t80:=Tryz.underlying74
 a80:=Tryz.isAgg74
 z80:=Tryz.sizeOf74
 v80:=Tryz.zeroValue74
 i0:=by kernel_rfl
 i2:=by kernel_rfl
 i3:=by kernel_rfl
 i4:=by kernel_rfl
 i5:=by kernel_rfl
 i9:=by kernel_rfl
 i20:=by kernel_rfl
 i21:=by kernel_rfl
 i37:=by kernel_rfl
 i46:=by kernel_rfl
 i51:=by kernel_rfl
 i53:=by kernel_rfl
 i75:=by kernel_rfl
 i80:=by kernel_rfl
 i85:=by kernel_rfl
 i127:=by kernel_rfl
 i143:=by kernel_rfl
 i145:=by kernel_rfl
 i167:=by kernel_rfl
 i168:=by kernel_rfl
 i171:=by kernel_rfl
 i173:=by kernel_rfl
 i175:=by kernel_rfl
 i210:=by kernel_rfl
 i212:=by kernel_rfl
 i232:=by kernel_rfl
 i233:=by kernel_rfl
 m15:=by kernel_rfl
 m16:=by kernel_rfl
 m17:=by kernel_rfl
 m18:=by kernel_rfl
 m19:=by kernel_rfl
 c0:=by kernel_rfl
 c2:=by kernel_rfl
 c3:=by kernel_rfl
 c4:=by kernel_rfl
 c5:=by kernel_rfl
 c9:=by kernel_rfl
 c20:=by kernel_rfl
 c21:=by kernel_rfl
 c37:=by kernel_rfl
 c46:=by kernel_rfl
 c51:=by kernel_rfl
 c53:=by kernel_rfl
 c75:=by kernel_rfl
 c80:=by kernel_rfl
 c85:=by kernel_rfl
 c127:=by kernel_rfl
 c143:=by kernel_rfl
 c145:=by kernel_rfl
 c167:=by kernel_rfl
 c168:=by kernel_rfl
 c171:=by kernel_rfl
 c173:=by kernel_rfl
 c175:=by kernel_rfl
 c210:=by kernel_rfl
 c212:=by kernel_rfl
 c213:=by kernel_rfl
 c232:=by kernel_rfl
 c233:=by kernel_rfl}
theorem kP{a:Option Func}{x y:Func}(h:a=some x)(k:x=y):a=some y:=h.trans (ib some k)
def Tryz.laysSplit_ren:Go.Shelf.Ren:=⟨fun|146=>135|221=>156|268=>179|138=>180|143=>181|195=>192|197=>193|218=>194|219=>195|260=>203|217=>134|225=>204|224=>205|267=>206|266=>155|314=>216|n=>n,fun|31=>47|105=>208|46=>134|119=>229|139=>232|138=>231|146=>233|51=>190|n=>n,fun|1=>0|n=>n⟩
theorem Tryz.laysSplit:Go.Proofs.Lays.n146 Tryz.prog Tryz.laysSplit_ren:={
 mixed:=by kernel_rfl
 f138:=kP Tryz.func180 (by kernel_rfl)
 f143:=kP Tryz.func181 (by kernel_rfl)
 f146:=kP Tryz.func135 (by kernel_rfl)
 f195:=kP Tryz.func192 (by kernel_rfl)
 f197:=kP Tryz.func193 (by kernel_rfl)
 f217:=kP Tryz.func134 (by kernel_rfl)
 f218:=kP Tryz.func194 (by kernel_rfl)
 f219:=kP Tryz.func195 (by kernel_rfl)
 f221:=kP Tryz.func156 (by kernel_rfl)
 f224:=kP Tryz.func205 (by kernel_rfl)
 f225:=kP Tryz.func204 (by kernel_rfl)
 f260:=kP Tryz.func203 (by kernel_rfl)
 f266:=kP Tryz.func155 (by kernel_rfl)
 f267:=kP Tryz.func206 (by kernel_rfl)
 f268:=kP Tryz.func179 (by kernel_rfl)
 f314:=kP Tryz.func216 (by kernel_rfl)
 t0:=Tryz.underlying0
 a0:=Tryz.isAgg0
 z0:=Tryz.sizeOf0
 v0:=Tryz.zeroValue0
 t3:=Tryz.underlying3
 a3:=Tryz.isAgg3
 z3:=Tryz.sizeOf3
 v3:=Tryz.zeroValue3
 t4:=Tryz.underlying4
 a4:=Tryz.isAgg4
 z4:=Tryz.sizeOf4
 v4:=Tryz.zeroValue4
 t5:=Tryz.underlying5
 a5:=Tryz.isAgg5
 z5:=Tryz.sizeOf5
 v5:=Tryz.zeroValue5
 t9:=Tryz.underlying9
 a9:=Tryz.isAgg9
 z9:=Tryz.sizeOf9
 v9:=Tryz.zeroValue9
 t21:=Tryz.underlying21
 a21:=Tryz.isAgg21
 z21:=Tryz.sizeOf21
 v21:=Tryz.zeroValue21
 t31:=Tryz.underlying47
 a31:=Tryz.isAgg47
 z31:=Tryz.sizeOf47
 v31:=Tryz.zeroValue47
 t46:=Tryz.underlying134
 a46:=Tryz.isAgg134
 z46:=Tryz.sizeOf134
 v46:=Tryz.zeroValue134
 t51:=Tryz.underlying190
 a51:=Tryz.isAgg190
 z51:=Tryz.sizeOf190
 v51:=Tryz.zeroValue190
 t105:=Tryz.underlying208
 a105:=Tryz.isAgg208
 z105:=Tryz.sizeOf208
 v105:=Tryz.zeroValue208
 t119:=Tryz.underlying229
 a119:=Tryz.isAgg229
 z119:=Tryz.sizeOf229
 t138:=Tryz.underlying231
 a138:=Tryz.isAgg231
 z138:=Tryz.sizeOf231
 v138:=Tryz.zeroValue231
 t139:=Tryz.underlying232
 a139:=Tryz.isAgg232
 z139:=Tryz.sizeOf232
 v139:=Tryz.zeroValue232
 t146:=Tryz.underlying233
 a146:=Tryz.isAgg233
 z146:=Tryz.sizeOf233
 v146:=Tryz.zeroValue233
 g1:=by kernel_rfl
 g3:=by kernel_rfl
 g4:=by kernel_rfl}
namespace iL
theorem ae5{S:Nat->Prop}{w:World}(hB:Go.V.D.base.inv S w):Lib.TabIs Tryz.prog w "internal/strconv.uint64pow10" .u64 Lib.pow10Tab:=by
 obtain⟨-,-,⟨T,fr,hT⟩,-⟩:=hB;have hg:Tryz.prog.globalNamed "internal/strconv.uint64pow10" =some 5:=by kernel_rfl
 unfold Lib.TabIs World.var?;rw[hg];simp[hT]
set_option maxRecDepth 100000 in
theorem Q7(n:Int)(h0: -9223372036854775808<=n)(h1:n<=9223372036854775807)(w:World)(htab:Lib.TabIs Tryz.prog w "internal/strconv.uint64pow10" .u64 Lib.pow10Tab):
 Calls Tryz.prog 158 #[.int .i64 n] w fun e w'=>e=.returned (.string ⟨(Lib.itoa n).toArray⟩)/\Below w.heap.size w w':=by
 go_enter Tryz.func158,Tryz.ntmps158
 go_wp2_with (go_at_call 184;refine(Any.strconv_FormatInt_10 Tryz.laysFI n h0 h1 _ htab).mono ?_;rintro e w' ⟨rfl,k,os,rfl⟩)
 go_ret
 exact⟨rfl,Lib.below_grow _ _ (cu _) _ _⟩
theorem tab_below{w w':World}(h:Below w.heap.size w w')(htab:Lib.TabIs Tryz.prog w "internal/strconv.uint64pow10" .u64 Lib.pow10Tab):Lib.TabIs Tryz.prog w' "internal/strconv.uint64pow10" .u64 Lib.pow10Tab:=
 Lib.tabBelow_of_tabIs htab w' h
theorem ae6{s:List UInt8}{v:Int}(h:Lib.parseIntB 64 s=.ok v): -9223372036854775808<=v/\v<=9223372036854775807:=by
 obtain⟨a,b⟩:=Lib.parseIntB_bounds h;have e:((2^(64-1):Nat):Int)=9223372036854775808:=by decide
 rw[e]at a b;omega
set_option maxRecDepth 100000 in
theorem ae7(s:List UInt8)(hl:s.length<=281474976710656)(w:World)(htab:Lib.TabIs Tryz.prog w "internal/strconv.uint64pow10" .u64 Lib.pow10Tab)
 (ts tr:TypeId) (ps pr:Value) (hS:w.cell? ⟨1,0,none⟩=some (.iface ts ps)) (hR:w.cell? ⟨2,0,none⟩=some (.iface tr pr)):
 Calls Tryz.prog 136 #[.string ⟨s.toArray⟩] w fun e w'=>e=.returned (.tuple #[.int .i64 (M.fK s).1,.bool (M.fK s).2])/\Below w.heap.size w w':=by
 have hsz:(ByteArray.mk s.toArray).size=s.length:=pC;have hd:(ByteArray.mk s.toArray).data.toList=s:=by simp
 cases hp:Lib.parseIntB 64 s with
 |ok v=>
  obtain⟨v0,v1⟩:=ae6 hp;by_cases he:Lib.itoa v=s
  ·have hr:M.fK s=(v,true):=by unfold M.fK;rw[hp];simp only;rw[aT he]
   rw[hr]
   go_enter Tryz.func136,Tryz.ntmps136
   go_wp2_with (go_at_call 157;refine(Any.strconv_ParseInt_10_at64_ok Tryz.laysPI ⟨s.toArray⟩ (by omega) v (by rw[hd];exact hp) _).mono ?_;rintro e W1 ⟨rfl,hW⟩)
   have hb1:Below w.heap.size w W1:=by
    rcases hW with rfl|⟨t,rfl⟩
    ·exact Below.refl _ _
    ·exact Lib.bytesWorld_below _ _ _
   clear hW
   go_wp2_with (go_at_call 158;refine(Q7 v v0 v1 _ ?_).mono ?_)
   ·exact tab_below hb1 htab
   rintro e W2 ⟨rfl,hb2⟩
   have hb:Below w.heap.size w W2:=hb1.trans (hb2.mono hb1.size);rw[he]
   go_wp2
   go_ret2
   exact⟨rfl,hb⟩
  ·have hr:M.fK s=(0,false):=by unfold M.fK;rw[hp];simp only;rw[aP he]
   rw[hr]
   go_enter Tryz.func136,Tryz.ntmps136
   go_wp2_with (go_at_call 157;refine(Any.strconv_ParseInt_10_at64_ok Tryz.laysPI ⟨s.toArray⟩ (by omega) v (by rw[hd];exact hp) _).mono ?_;rintro e W1 ⟨rfl,hW⟩)
   have hb1:Below w.heap.size w W1:=by
    rcases hW with rfl|⟨t,rfl⟩
    ·exact Below.refl _ _
    ·exact Lib.bytesWorld_below _ _ _
   clear hW
   go_wp2_with (go_at_call 158;refine(Q7 v v0 v1 _ ?_).mono ?_)
   ·exact tab_below hb1 htab
   rintro e W2 ⟨rfl,hb2⟩
   have hb:Below w.heap.size w W2:=hb1.trans (hb2.mono hb1.size);have hne:(Lib.itoa v==s)=false:=cL.2 he
   go_wp2
   go_ret2
   exact⟨rfl,hb⟩
 |range=>
  have hr:M.fK s=(0,false):=by unfold M.fK;rw[hp]
  rw[hr]
  go_enter Tryz.func136,Tryz.ntmps136
  go_wp2_with (go_at_call 157;refine(Any.strconv_ParseInt_10_at64_range Tryz.laysPI ⟨s.toArray⟩ (by omega) (by rw[hd];exact hp) _ _ hR (Or.inr ⟨tr,pr,rfl⟩)).mono ?_;rintro e W1 ⟨N,rfl,-,-,hb⟩)
  go_wp2
  go_ret2
  exact⟨rfl,hb⟩
 |_=>
  have hr:M.fK s=(0,false):=by unfold M.fK;rw[hp]
  rw[hr]
  go_enter Tryz.func136,Tryz.ntmps136
  go_wp2_with (go_at_call 157;refine(Any.strconv_ParseInt_10_at64_syntax Tryz.laysPI ⟨s.toArray⟩ (by omega) (by rw[hd];exact hp) _ _ hS (Or.inr ⟨ts,ps,rfl⟩)).mono ?_;rintro e W1 ⟨N,rfl,-,-,hb⟩)
  go_wp2
  go_ret2
  exact⟨rfl,hb⟩
theorem Q8{P:Program}{f:FuncId}{args:List (AV K)}{r:AV K}(hf:vx P f)
 (h:∀(S:Nat->Prop)(w:World)(vals:List Value),(∀b,S b->b<w.heap.size)->Go.V.D.base.inv S w->bc Go.V.D [] S w args vals->Calls P f vals.toArray w fun e w'=>∃u,e=.returned u/\Below w.heap.size w w'/\∃S':Nat->Prop,(∀b,S b->S' b)/\(∀b,S' b->S b\/(w.heap.size<=b/\b<w'.heap.size))/\Rep Go.V.D [] S' w' r u):RC Go.V.D P f args [] r []:=by
 refine⟨hf,fun ρ S w vals hs ha=>?_⟩;have hρ:ρ=[]:=by have:=hs.len;simpa using this
 subst hρ;have own:∀(w:World) b,¬Own Go.V.D w [] ([]:List (Ob K)) b:=fun w b hb=>by
  obtain⟨h,o,r,ho,_⟩:=hb;simp at ho
 refine(h S w vals hs.slt hs.base ha).mono ?_
 rintro e w' ⟨u,rfl,hb,S',h1,h2,h3⟩
 refine⟨u,[],S',rfl,⟨rfl,fun h o r ho _=>by simp at ho,fun h h' o o' r r' b ho=>by simp at ho,fun b hO=>absurd hO (own _ b),fun b hO=>?_,Go.V.D.base.mono h1 (fun b h=>hb.block b (hs.slt b h)) hs.base⟩,h3,
  ⟨hb.os,hb.tape,hb.output,hb.size,fun b hlt _=>hb.block b hlt,fun b hO=>absurd hO (own _ b),h1,fun b hO=>?_,fun h hh=>rfl⟩⟩
 ·rcases h2 b hO with h|h
  ·exact lq (hs.slt b h) hb.size
  ·exact h.2
 ·rcases h2 b hO with h|h
  ·exact .inl h
  ·exact .inr (.inr h.1)
theorem ae8{s sep:List UInt8}{r:List (List UInt8)}(h:M.strings_Split s sep=some r):sep=[46]/\s.length<4294967281/\dX.eN s=r:=by
 unfold M.strings_Split at h;by_cases h1:sep=[46]
 ·by_cases h2:s.length<4294967281
  ·rw[h1]at h;simp only[h2,eB,cr,bM,ad]at h;exact⟨h1,h2,iv h⟩
  ·simp[h2]at h
 ·have:(sep==[46])=false:=cL.2 h1;rw[this]at h;simp at h
theorem ae9:(KN M.rA).Ok Go.V.D Tryz.prog:=by
 intro x r hr;obtain⟨hl,hv⟩:List.length (α:=UInt8) x.1.1<=281474976710656/\M.fK x.1.1=r:=by
  change M.rA x.1.1=some r at hr;unfold M.rA at hr;by_cases h:List.length (α:=UInt8) x.1.1<=281474976710656
  ·simp only[h,eB,ad]at hr;exact⟨h,iv hr⟩
  ·simp[h]at hr
 subst hv;refine Q8 ⟨Tryz.f136,Tryz.func136,by kernel_rfl,by kernel_rfl⟩ fun S w vals hS hB ha=>?_
 obtain⟨X,rfl,hX⟩:=Aw (x:=.str x.1.1) ha;rw[iY hX];obtain⟨-,-,-,⟨ts,ps,hs⟩,⟨tr,pr,hr2⟩⟩:=id hB;refine(ae7 _ hl w (ae5 hB) ts tr ps pr hs hr2).mono ?_
 rintro e w' ⟨rfl,hb⟩
 exact⟨_,rfl,hb,S,fun _ h=>h,fun _ h=>.inl h,.bB (l:=[.int .i64 _,.bool _]) (vs:=[_,_]) rfl (bc.cons (.int _ _) (.cons (.bool _) .nil)).2⟩
set_option maxRecDepth 100000 in
theorem afa(s:List UInt8)(hl:s.length<4294967281)(m:Int)(w:World)(hm:w.cell? ⟨0,0,none⟩=some (.int .i64 m)):
 Calls Tryz.prog 135 #[.string ⟨s.toArray⟩,.string ⟨#[46]⟩] w fun e w'=>e=.returned (.slice (some ⟨w.heap.size,0,none⟩) (dX.eN s).length (dX.eN s).length)/\w'=w.alloc (.cells ((dX.eN s).map encStr).toArray 9):=by
 have h:=Any.strings_Split Tryz.laysSplit (by kernel_rfl) ⟨s.toArray⟩ ⟨#[46]⟩ m w (by show s.toArray.size<_;simpa using hl) hm (by decide);have e1:=dX.ab1 ⟨s.toArray⟩ ⟨#[46]⟩ rfl;have e2:(ByteArray.mk s.toArray).data.toList=s:=by simp
 rw[e2]at e1;have e3:(Lib.splitB ⟨#[46]⟩ 0 (Lib.countB ⟨s.toArray⟩ ⟨#[46]⟩) ⟨s.toArray⟩).map Value.string=(dX.eN s).map encStr:=by
  rw[<-e1,List.map_map];refine List.map_congr_left fun x _=>?_
  show Value.string x=encStr x.data.toList
  simp[encStr]
 have e4:Lib.countB ⟨s.toArray⟩ ⟨#[46]⟩+1=(dX.eN s).length:=by
  rw[<-e1,eJ,Lib.splitB_all ⟨#[46]⟩ (by decide) 0 _ ⟨s.toArray⟩ rfl]
 rw[e3,e4]at h;exact h
theorem afb:(KO M.strings_Split).Ok Go.V.D Tryz.prog:=by
 intro x r hr;obtain⟨hsep,hl,hv⟩:=ae8 (s:=x.1.1) (sep:=x.1.2.1) hr;subst hv;refine Q8 ⟨Tryz.f135,Tryz.func135,by kernel_rfl,by kernel_rfl⟩ fun S w vals hS hB ha=>?_
 obtain⟨X,r1,rfl,hX,hr1⟩:=bc.gP (v:=.str x.1.1) (l:=[.str x.1.2.1]) ha;obtain⟨Y,r2,rfl,hY,hr2⟩:=hr1.gP;rw[hr2.oL,iY hX,iY hY,hsep];obtain⟨-,⟨m,hm⟩,-⟩:=id hB;refine(afa _ hl m w hm).mono ?_
 rintro e w' ⟨rfl,rfl⟩
 generalize dX.eN x.1.1=zs;refine⟨_,rfl,(Below.refl _ w).alloc (cu _) _,fun b=>S b\/b=w.heap.size,fun _ h=>.inl h,fun b h=>h.imp id fun e=>by subst e;exact⟨cu _,by simp⟩,?_⟩;refine Rep.ax (D:=Go.V.D) (c:=U.str) (l:=zs) (fun i=>[encStr (zs[i]?.getD [])]) (Or.inr rfl) (cu _) (fun i y hy=>rfl) (fun i hi j v hv=>?_) (fun i y hy j v u hv hu=>?_)
 ·cases j with
  |zero=>
   simp at hv;subst hv;have hz:zs[i]?=some zs[i]:=cH hi;have:(w.alloc (.cells (zs.map encStr).toArray 9)).cell? ⟨w.heap.size,0+i*K.sz U.str+0,none⟩=some (encStr zs[i]):=by
    have e:0+i*K.sz U.str+0=i:=by show 0+i*1+0=i;omega
    rw[e];have hn:(w.alloc (.cells (zs.map encStr).toArray 9)).heap[w.heap.size]?=some (.cells (zs.map encStr).toArray 9 (0,0)):=vu _ _;simp only[World.cell?,hn];simp[hi]
   rw[this,hz];rfl
  |succ j=>simp at hv
 ·cases j with
  |zero=>
   simp at hu;subst hu;have:v=.str y:=by have:=hv;simp only[D,Kx,kn,tp,Sh.encs,List.getElem?_cons_zero,av]at this;exact this.symm
   subst this;rw[hy];exact .str _
  |succ j=>simp at hu
end iL
end Go.Proofs
theorem afc:(KN M.rA).Ok Go.V.D Go.Proofs.Tryz.prog:=Go.Proofs.iL.ae9
theorem afd:(KO M.strings_Split).Ok Go.V.D Go.Proofs.Tryz.prog:=Go.Proofs.iL.afb
