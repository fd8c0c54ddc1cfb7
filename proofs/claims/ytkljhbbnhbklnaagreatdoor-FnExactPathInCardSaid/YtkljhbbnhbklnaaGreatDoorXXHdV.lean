/-
  The contracts of the program's decimals and of strings.Split at a dot.
-/
import Derived.Test.YtkljhbbnhbklnaaGreatDoorXXhand4
import Derived.Shelf.Abstract
import Derived.Shelf.Strconv.Itoa4
import Derived.Shelf.Strconv.ParseIntPublic10
import Derived.Shelf.Strings.Split
import Derived.Lib.AppendIntMem
import Derived.Lib.ParseIntBTie
import Derived.Lib.LaidTab
import Derived.Stop.IfaceNil
import Derived.WalkKit
import Derived.BigCall
import Derived.Ground.NamesProg
import Derived.Test.YtkljhbbnhbklnaaGreatDoorProg
set_option linter.unusedVariables false
noncomputable def awr(m:Int->Option (List UInt8)):Go.V.aE Go.V.K:={f:=96,sh:=⟨[.int .i64],[]⟩,R:=List UInt8,run:=fun x=>m x.1.1,dflt:=default,out:=fun r=>(Go.V.Sh.enc Go.V.D (.str) r,Go.V.aY.encs Go.V.D [] ())}
noncomputable def MD(m:List UInt8->Option (Int×Bool)):Go.V.aE Go.V.K:={f:=74,sh:=⟨[.str],[]⟩,R:=Int×Bool,run:=fun x=>m x.1.1,dflt:=default,out:=fun r=>(Go.V.Sh.enc Go.V.D (.bz [.int .i64,.bool]) (r.1,(r.2,())),Go.V.aY.encs Go.V.D [] ())}
noncomputable def ME(m:List UInt8->List UInt8->Option (List (List UInt8))):Go.V.aE Go.V.K:={f:=73,sh:=⟨[.str,.str],[]⟩,R:=List (List UInt8),run:=fun x=>m x.1.1 x.1.2.1,dflt:=default,out:=fun r=>(Go.V.Sh.enc Go.V.D (.an Go.V.U.str) r,Go.V.aY.encs Go.V.D [] ())}
namespace Go.Proofs
open Go.RowKit Go.Shelf Go.V Go.Lib Go.Sort
theorem afJ{a:Option Func}{x y:Func}(h:a=some x)(k:x=y):a=some y:=h.trans (rF some k)
def Tryz.laysFI_ren:Go.Shelf.Ren:=⟨fun|173=>138|246=>191|283=>227|284=>228|285=>229|286=>230|129=>255|317=>254|318=>256|319=>257|320=>258|337=>273|338=>274|n=>n,fun|171=>268|53=>233|37=>180|173=>271|212=>292|51=>285|213=>293|46=>236|232=>312|233=>313|n=>n,fun|17=>5|18=>6|19=>7|n=>n⟩
theorem Tryz.laysFI:Go.Proofs.LaysM.n173 Tryz.prog Tryz.laysFI_ren:={
 mixed:=by kernel_rfl
 f129:=afJ Tryz.func255 (by kernel_rfl)
 f173:=afJ Tryz.func138 (by kernel_rfl)
 f246:=afJ Tryz.func191 (by kernel_rfl)
 f283:=afJ Tryz.func227 (by kernel_rfl)
 f284:=afJ Tryz.func228 (by kernel_rfl)
 f285:=afJ Tryz.func229 (by kernel_rfl)
 f286:=afJ Tryz.func230 (by kernel_rfl)
 f317:=afJ Tryz.func254 (by kernel_rfl)
 f318:=afJ Tryz.func256 (by kernel_rfl)
 f319:=afJ Tryz.func257 (by kernel_rfl)
 f320:=afJ Tryz.func258 (by kernel_rfl)
 f337:=afJ Tryz.func273 (by kernel_rfl)
 f338:=afJ Tryz.func274 (by kernel_rfl)
 t0:=Tryz.underlying0
 a0:=Tryz.isAgg0
 z0:=Tryz.sizeOf0
 v0:=Tryz.zeroValue0
 t2:=Tryz.underlying2
 a2:=Tryz.isAgg2
 z2:=Tryz.sizeOf2
 v2:=Tryz.zeroValue2
 t3:=Tryz.underlying3
 a3:=Tryz.isAgg3
 z3:=Tryz.sizeOf3
 v3:=Tryz.zeroValue3
 t4:=Tryz.underlying4
 a4:=Tryz.isAgg4
 z4:=Tryz.sizeOf4
 v4:=Tryz.zeroValue4
 t5:=Tryz.underlying5
 a5:=Tryz.isAgg5
 z5:=Tryz.sizeOf5
 v5:=Tryz.zeroValue5
 t9:=Tryz.underlying9
 a9:=Tryz.isAgg9
 z9:=Tryz.sizeOf9
 v9:=Tryz.zeroValue9
 t20:=Tryz.underlying20
 a20:=Tryz.isAgg20
 z20:=Tryz.sizeOf20
 v20:=Tryz.zeroValue20
 t37:=Tryz.underlying180
 a37:=Tryz.isAgg180
 z37:=Tryz.sizeOf180
 v37:=Tryz.zeroValue180
 t46:=Tryz.underlying236
 a46:=Tryz.isAgg236
 z46:=Tryz.sizeOf236
 v46:=Tryz.zeroValue236
 t51:=Tryz.underlying285
 a51:=Tryz.isAgg285
 z51:=Tryz.sizeOf285
 v51:=Tryz.zeroValue285
 t53:=Tryz.underlying233
 a53:=Tryz.isAgg233
 z53:=Tryz.sizeOf233
 v53:=Tryz.zeroValue233
 t171:=Tryz.underlying268
 a171:=Tryz.isAgg268
 z171:=Tryz.sizeOf268
 v171:=Tryz.zeroValue268
 t173:=Tryz.underlying271
 a173:=Tryz.isAgg271
 z173:=Tryz.sizeOf271
 v173:=Tryz.zeroValue271
 t212:=Tryz.underlying292
 a212:=Tryz.isAgg292
 z212:=Tryz.sizeOf292
 v212:=Tryz.zeroValue292
 t213:=Tryz.underlying293
 a213:=Tryz.isAgg293
 z213:=Tryz.sizeOf293
 t232:=Tryz.underlying312
 a232:=Tryz.isAgg312
 z232:=Tryz.sizeOf312
 v232:=Tryz.zeroValue312
 t233:=Tryz.underlying313
 a233:=Tryz.isAgg313
 z233:=Tryz.sizeOf313
 v233:=Tryz.zeroValue313
 g17:=by kernel_rfl
 g18:=by kernel_rfl
 g19:=by kernel_rfl
 i0:=by kernel_rfl
 i2:=by kernel_rfl
 i3:=by kernel_rfl
 i4:=by kernel_rfl
 i5:=by kernel_rfl
 i9:=by kernel_rfl
 i20:=by kernel_rfl
 i37:=by kernel_rfl
 i46:=by kernel_rfl
 i51:=by kernel_rfl
 i53:=by kernel_rfl
 i171:=by kernel_rfl
 i173:=by kernel_rfl
 i212:=by kernel_rfl
 i232:=by kernel_rfl
 i233:=by kernel_rfl
 m17:=by kernel_rfl
 m18:=by kernel_rfl
 m19:=by kernel_rfl}
theorem abB{a:Option Func}{x y:Func}(h:a=some x)(k:x=y):a=some y:=h.trans (rF some k)
def Tryz.laysPI_ren:Go.Shelf.Ren:=⟨fun|174=>95|247=>136|245=>137|287=>186|279=>187|280=>188|281=>189|282=>190|321=>222|322=>223|316=>224|171=>226|205=>225|243=>253|246=>191|283=>227|284=>228|285=>229|286=>230|129=>255|317=>254|318=>256|319=>257|320=>258|337=>273|338=>274|n=>n,fun|75=>154|85=>155|167=>232|53=>233|175=>234|46=>236|168=>237|37=>180|210=>265|127=>222|145=>290|143=>288|171=>268|173=>271|212=>292|51=>285|213=>293|232=>312|233=>313|80=>170|n=>n,fun|15=>1|16=>2|17=>5|18=>6|19=>7|n=>n⟩
theorem Tryz.laysPI:Go.Proofs.LaysC.n174 Tryz.prog Tryz.laysPI_ren:={
 mixed:=by kernel_rfl
 f129:=abB Tryz.func255 (by kernel_rfl)
 f171:=abB Tryz.func226 (by kernel_rfl)
 f174:=abB Tryz.func95 (by kernel_rfl)
 f205:=abB Tryz.func225 (by kernel_rfl)
 f243:=abB Tryz.func253 (by kernel_rfl)
 f245:=abB Tryz.func137 (by kernel_rfl)
 f246:=abB Tryz.func191 (by kernel_rfl)
 f247:=abB Tryz.func136 (by kernel_rfl)
 f279:=abB Tryz.func187 (by kernel_rfl)
 f280:=abB Tryz.func188 (by kernel_rfl)
 f281:=abB Tryz.func189 (by kernel_rfl)
 f282:=abB Tryz.func190 (by kernel_rfl)
 f283:=abB Tryz.func227 (by kernel_rfl)
 f284:=abB Tryz.func228 (by kernel_rfl)
 f285:=abB Tryz.func229 (by kernel_rfl)
 f286:=abB Tryz.func230 (by kernel_rfl)
 f287:=abB Tryz.func186 (by kernel_rfl)
 f316:=abB Tryz.func224 (by kernel_rfl)
 f317:=abB Tryz.func254 (by kernel_rfl)
 f318:=abB Tryz.func256 (by kernel_rfl)
 f319:=abB Tryz.func257 (by kernel_rfl)
 f320:=abB Tryz.func258 (by kernel_rfl)
 f321:=abB Tryz.func222 (by kernel_rfl)
 f322:=abB Tryz.func223 (by kernel_rfl)
 f337:=abB Tryz.func273 (by kernel_rfl)
 f338:=abB Tryz.func274 (by kernel_rfl)
 t0:=Tryz.underlying0
 a0:=Tryz.isAgg0
 z0:=Tryz.sizeOf0
 v0:=Tryz.zeroValue0
 t2:=Tryz.underlying2
 a2:=Tryz.isAgg2
 z2:=Tryz.sizeOf2
 v2:=Tryz.zeroValue2
 t3:=Tryz.underlying3
 a3:=Tryz.isAgg3
 z3:=Tryz.sizeOf3
 v3:=Tryz.zeroValue3
 t4:=Tryz.underlying4
 a4:=Tryz.isAgg4
 z4:=Tryz.sizeOf4
 v4:=Tryz.zeroValue4
 t5:=Tryz.underlying5
 a5:=Tryz.isAgg5
 z5:=Tryz.sizeOf5
 v5:=Tryz.zeroValue5
 t9:=Tryz.underlying9
 a9:=Tryz.isAgg9
 z9:=Tryz.sizeOf9
 v9:=Tryz.zeroValue9
 t20:=Tryz.underlying20
 a20:=Tryz.isAgg20
 z20:=Tryz.sizeOf20
 v20:=Tryz.zeroValue20
 t21:=Tryz.underlying21
 a21:=Tryz.isAgg21
 z21:=Tryz.sizeOf21
 v21:=Tryz.zeroValue21
 t37:=Tryz.underlying180
 a37:=Tryz.isAgg180
 z37:=Tryz.sizeOf180
 v37:=Tryz.zeroValue180
 t46:=Tryz.underlying236
 a46:=Tryz.isAgg236
 z46:=Tryz.sizeOf236
 v46:=Tryz.zeroValue236
 t51:=Tryz.underlying285
 a51:=Tryz.isAgg285
 z51:=Tryz.sizeOf285
 v51:=Tryz.zeroValue285
 t53:=Tryz.underlying233
 a53:=Tryz.isAgg233
 z53:=Tryz.sizeOf233
 v53:=Tryz.zeroValue233
 t75:=Tryz.underlying154
 a75:=Tryz.isAgg154
 z75:=Tryz.sizeOf154
 v75:=Tryz.zeroValue154
 t85:=Tryz.underlying155
 a85:=Tryz.isAgg155
 z85:=Tryz.sizeOf155
 v85:=Tryz.zeroValue155
 t127:=Tryz.underlying222
 a127:=Tryz.isAgg222
 z127:=Tryz.sizeOf222
 v127:=Tryz.zeroValue222
 t143:=Tryz.underlying288
 a143:=Tryz.isAgg288
 z143:=Tryz.sizeOf288
 v143:=Tryz.zeroValue288
 t145:=Tryz.underlying290
 a145:=Tryz.isAgg290
 z145:=Tryz.sizeOf290
 v145:=Tryz.zeroValue290
 t167:=Tryz.underlying232
 a167:=Tryz.isAgg232
 z167:=Tryz.sizeOf232
 v167:=Tryz.zeroValue232
 t168:=Tryz.underlying237
 a168:=Tryz.isAgg237
 z168:=Tryz.sizeOf237
 v168:=Tryz.zeroValue237
 t171:=Tryz.underlying268
 a171:=Tryz.isAgg268
 z171:=Tryz.sizeOf268
 v171:=Tryz.zeroValue268
 t173:=Tryz.underlying271
 a173:=Tryz.isAgg271
 z173:=Tryz.sizeOf271
 v173:=Tryz.zeroValue271
 t175:=Tryz.underlying234
 a175:=Tryz.isAgg234
 z175:=Tryz.sizeOf234
 v175:=Tryz.zeroValue234
 t210:=Tryz.underlying265
 a210:=Tryz.isAgg265
 z210:=Tryz.sizeOf265
 v210:=Tryz.zeroValue265
 t212:=Tryz.underlying292
 a212:=Tryz.isAgg292
 z212:=Tryz.sizeOf292
 v212:=Tryz.zeroValue292
 t213:=Tryz.underlying293
 a213:=Tryz.isAgg293
 z213:=Tryz.sizeOf293
 t232:=Tryz.underlying312
 a232:=Tryz.isAgg312
 z232:=Tryz.sizeOf312
 v232:=Tryz.zeroValue312
 t233:=Tryz.underlying313
 a233:=Tryz.isAgg313
 z233:=Tryz.sizeOf313
 v233:=Tryz.zeroValue313
 g15:=by kernel_rfl
 g16:=by kernel_rfl
 g17:=by kernel_rfl
 g18:=by kernel_rfl
 g19:=by kernel_rfl
 t80:=Tryz.underlying170
 a80:=Tryz.isAgg170
 z80:=Tryz.sizeOf170
 v80:=Tryz.zeroValue170
 i0:=by kernel_rfl
 i2:=by kernel_rfl
 i3:=by kernel_rfl
 i4:=by kernel_rfl
 i5:=by kernel_rfl
 i9:=by kernel_rfl
 i20:=by kernel_rfl
 i21:=by kernel_rfl
 i37:=by kernel_rfl
 i46:=by kernel_rfl
 i51:=by kernel_rfl
 i53:=by kernel_rfl
 i75:=by kernel_rfl
 i80:=by kernel_rfl
 i85:=by kernel_rfl
 i127:=by kernel_rfl
 i143:=by kernel_rfl
 i145:=by kernel_rfl
 i167:=by kernel_rfl
 i168:=by kernel_rfl
 i171:=by kernel_rfl
 i173:=by kernel_rfl
 i175:=by kernel_rfl
 i210:=by kernel_rfl
 i212:=by kernel_rfl
 i232:=by kernel_rfl
 i233:=by kernel_rfl
 m15:=by kernel_rfl
 m16:=by kernel_rfl
 m17:=by kernel_rfl
 m18:=by kernel_rfl
 m19:=by kernel_rfl
 c0:=by kernel_rfl
 c2:=by kernel_rfl
 c3:=by kernel_rfl
 c4:=by kernel_rfl
 c5:=by kernel_rfl
 c9:=by kernel_rfl
 c20:=by kernel_rfl
 c21:=by kernel_rfl
 c37:=by kernel_rfl
 c46:=by kernel_rfl
 c51:=by kernel_rfl
 c53:=by kernel_rfl
 c75:=by kernel_rfl
 c80:=by kernel_rfl
 c85:=by kernel_rfl
 c127:=by kernel_rfl
 c143:=by kernel_rfl
 c145:=by kernel_rfl
 c167:=by kernel_rfl
 c168:=by kernel_rfl
 c171:=by kernel_rfl
 c173:=by kernel_rfl
 c175:=by kernel_rfl
 c210:=by kernel_rfl
 c212:=by kernel_rfl
 c213:=by kernel_rfl
 c232:=by kernel_rfl
 c233:=by kernel_rfl}
theorem afI{a:Option Func}{x y:Func}(h:a=some x)(k:x=y):a=some y:=h.trans (rF some k)
def Tryz.laysSplit_ren:Go.Shelf.Ren:=⟨fun|146=>73|221=>94|268=>133|138=>134|143=>135|195=>182|197=>183|218=>184|219=>185|260=>217|217=>218|225=>219|224=>220|267=>221|266=>251|314=>252|n=>n,fun|31=>112|105=>229|46=>236|119=>281|139=>284|138=>283|146=>286|51=>285|n=>n,fun|1=>0|n=>n⟩
theorem Tryz.laysSplit:Go.Proofs.Lays.n146 Tryz.prog Tryz.laysSplit_ren:={
 mixed:=by kernel_rfl
 f138:=afI Tryz.func134 (by kernel_rfl)
 f143:=afI Tryz.func135 (by kernel_rfl)
 f146:=afI Tryz.func73 (by kernel_rfl)
 f195:=afI Tryz.func182 (by kernel_rfl)
 f197:=afI Tryz.func183 (by kernel_rfl)
 f217:=afI Tryz.func218 (by kernel_rfl)
 f218:=afI Tryz.func184 (by kernel_rfl)
 f219:=afI Tryz.func185 (by kernel_rfl)
 f221:=afI Tryz.func94 (by kernel_rfl)
 f224:=afI Tryz.func220 (by kernel_rfl)
 f225:=afI Tryz.func219 (by kernel_rfl)
 f260:=afI Tryz.func217 (by kernel_rfl)
 f266:=afI Tryz.func251 (by kernel_rfl)
 f267:=afI Tryz.func221 (by kernel_rfl)
 f268:=afI Tryz.func133 (by kernel_rfl)
 f314:=afI Tryz.func252 (by kernel_rfl)
 t0:=Tryz.underlying0
 a0:=Tryz.isAgg0
 z0:=Tryz.sizeOf0
 v0:=Tryz.zeroValue0
 t3:=Tryz.underlying3
 a3:=Tryz.isAgg3
 z3:=Tryz.sizeOf3
 v3:=Tryz.zeroValue3
 t4:=Tryz.underlying4
 a4:=Tryz.isAgg4
 z4:=Tryz.sizeOf4
 v4:=Tryz.zeroValue4
 t5:=Tryz.underlying5
 a5:=Tryz.isAgg5
 z5:=Tryz.sizeOf5
 v5:=Tryz.zeroValue5
 t9:=Tryz.underlying9
 a9:=Tryz.isAgg9
 z9:=Tryz.sizeOf9
 v9:=Tryz.zeroValue9
 t21:=Tryz.underlying21
 a21:=Tryz.isAgg21
 z21:=Tryz.sizeOf21
 v21:=Tryz.zeroValue21
 t31:=Tryz.underlying112
 a31:=Tryz.isAgg112
 z31:=Tryz.sizeOf112
 v31:=Tryz.zeroValue112
 t46:=Tryz.underlying236
 a46:=Tryz.isAgg236
 z46:=Tryz.sizeOf236
 v46:=Tryz.zeroValue236
 t51:=Tryz.underlying285
 a51:=Tryz.isAgg285
 z51:=Tryz.sizeOf285
 v51:=Tryz.zeroValue285
 t105:=Tryz.underlying229
 a105:=Tryz.isAgg229
 z105:=Tryz.sizeOf229
 v105:=Tryz.zeroValue229
 t119:=Tryz.underlying281
 a119:=Tryz.isAgg281
 z119:=Tryz.sizeOf281
 t138:=Tryz.underlying283
 a138:=Tryz.isAgg283
 z138:=Tryz.sizeOf283
 v138:=Tryz.zeroValue283
 t139:=Tryz.underlying284
 a139:=Tryz.isAgg284
 z139:=Tryz.sizeOf284
 v139:=Tryz.zeroValue284
 t146:=Tryz.underlying286
 a146:=Tryz.isAgg286
 z146:=Tryz.sizeOf286
 v146:=Tryz.zeroValue286
 g1:=by kernel_rfl
 g3:=by kernel_rfl
 g4:=by kernel_rfl}
namespace iu
theorem aiR{S:Nat->Prop}{w:World}(hB:Go.V.D.base.inv S w):Lib.TabIs Tryz.prog w "internal/strconv.uint64pow10" .u64 Lib.pow10Tab:=by
 obtain⟨-,-,⟨T,fr,hT⟩,-⟩:=hB;have hg:Tryz.prog.globalNamed "internal/strconv.uint64pow10" =some 5:=by kernel_rfl
 unfold Lib.TabIs World.var?;rw[hg];simp[hT]
set_option maxRecDepth 100000 in
theorem S9(n:Int)(h0: -9223372036854775808<=n)(h1:n<=9223372036854775807)(w:World)(htab:Lib.TabIs Tryz.prog w "internal/strconv.uint64pow10" .u64 Lib.pow10Tab):
 Calls Tryz.prog 96 #[.int .i64 n] w fun e w'=>e=.returned (.string ⟨(Lib.itoa n).toArray⟩)/\Below w.heap.size w w':=by
 go_enter Tryz.func96,Tryz.ntmps96
 go_wp2_with (go_at_call 138;refine(Any.strconv_FormatInt_10 Tryz.laysFI n h0 h1 _ htab).mono ?_;rintro e w' ⟨rfl,k,os,rfl⟩)
 go_ret
 exact⟨rfl,Lib.below_grow _ _ (ct _) _ _⟩
theorem tab_below{w w':World}(h:Below w.heap.size w w')(htab:Lib.TabIs Tryz.prog w "internal/strconv.uint64pow10" .u64 Lib.pow10Tab):Lib.TabIs Tryz.prog w' "internal/strconv.uint64pow10" .u64 Lib.pow10Tab:=
 Lib.tabBelow_of_tabIs htab w' h
theorem aiS{s:List UInt8}{v:Int}(h:Lib.parseIntB 64 s=.ok v): -9223372036854775808<=v/\v<=9223372036854775807:=by
 obtain⟨a,b⟩:=Lib.parseIntB_bounds h;have e:((2^(64-1):Nat):Int)=9223372036854775808:=by decide
 rw[e]at a b;omega
set_option maxRecDepth 100000 in
theorem aiT(s:List UInt8)(hl:s.length<=281474976710656)(w:World)(htab:Lib.TabIs Tryz.prog w "internal/strconv.uint64pow10" .u64 Lib.pow10Tab)
 (ts tr:TypeId) (ps pr:Value) (hS:w.cell? ⟨1,0,none⟩=some (.iface ts ps)) (hR:w.cell? ⟨2,0,none⟩=some (.iface tr pr)):
 Calls Tryz.prog 74 #[.string ⟨s.toArray⟩] w fun e w'=>e=.returned (.tuple #[.int .i64 (M.dX s).1,.bool (M.dX s).2])/\Below w.heap.size w w':=by
 have hsz:(ByteArray.mk s.toArray).size=s.length:=oy;have hd:(ByteArray.mk s.toArray).data.toList=s:=by simp
 cases hp:Lib.parseIntB 64 s with
 |ok v=>
  obtain⟨v0,v1⟩:=aiS hp;by_cases he:Lib.itoa v=s
  ·have hr:M.dX s=(v,true):=by unfold M.dX;rw[hp];simp only;rw[ba he]
   rw[hr]
   go_enter Tryz.func74,Tryz.ntmps74
   go_wp2_with (go_at_call 95;refine(Any.strconv_ParseInt_10_at64_ok Tryz.laysPI ⟨s.toArray⟩ (by omega) v (by rw[hd];exact hp) _).mono ?_;rintro e W1 ⟨rfl,hW⟩)
   have hb1:Below w.heap.size w W1:=by
    rcases hW with rfl|⟨t,rfl⟩
    ·exact Below.refl _ _
    ·exact Lib.bytesWorld_below _ _ _
   clear hW
   go_wp2_with (go_at_call 96;refine(S9 v v0 v1 _ ?_).mono ?_)
   ·exact tab_below hb1 htab
   rintro e W2 ⟨rfl,hb2⟩
   have hb:Below w.heap.size w W2:=hb1.trans (hb2.mono hb1.size);rw[he]
   go_wp2
   go_ret2
   exact⟨rfl,hb⟩
  ·have hr:M.dX s=(0,false):=by unfold M.dX;rw[hp];simp only;rw[aX he]
   rw[hr]
   go_enter Tryz.func74,Tryz.ntmps74
   go_wp2_with (go_at_call 95;refine(Any.strconv_ParseInt_10_at64_ok Tryz.laysPI ⟨s.toArray⟩ (by omega) v (by rw[hd];exact hp) _).mono ?_;rintro e W1 ⟨rfl,hW⟩)
   have hb1:Below w.heap.size w W1:=by
    rcases hW with rfl|⟨t,rfl⟩
    ·exact Below.refl _ _
    ·exact Lib.bytesWorld_below _ _ _
   clear hW
   go_wp2_with (go_at_call 96;refine(S9 v v0 v1 _ ?_).mono ?_)
   ·exact tab_below hb1 htab
   rintro e W2 ⟨rfl,hb2⟩
   have hb:Below w.heap.size w W2:=hb1.trans (hb2.mono hb1.size);have hne:(Lib.itoa v==s)=false:=cM.2 he
   go_wp2
   go_ret2
   exact⟨rfl,hb⟩
 |range=>
  have hr:M.dX s=(0,false):=by unfold M.dX;rw[hp]
  rw[hr]
  go_enter Tryz.func74,Tryz.ntmps74
  go_wp2_with (go_at_call 95;refine(Any.strconv_ParseInt_10_at64_range Tryz.laysPI ⟨s.toArray⟩ (by omega) (by rw[hd];exact hp) _ _ hR (Or.inr ⟨tr,pr,rfl⟩)).mono ?_;rintro e W1 ⟨N,rfl,-,-,hb⟩)
  go_wp2
  go_ret2
  exact⟨rfl,hb⟩
 |_=>
  have hr:M.dX s=(0,false):=by unfold M.dX;rw[hp]
  rw[hr]
  go_enter Tryz.func74,Tryz.ntmps74
  go_wp2_with (go_at_call 95;refine(Any.strconv_ParseInt_10_at64_syntax Tryz.laysPI ⟨s.toArray⟩ (by omega) (by rw[hd];exact hp) _ _ hS (Or.inr ⟨ts,ps,rfl⟩)).mono ?_;rintro e W1 ⟨N,rfl,-,-,hb⟩)
  go_wp2
  go_ret2
  exact⟨rfl,hb⟩
theorem Ta{P:Program}{f:FuncId}{args:List (AV K)}{r:AV K}(hf:uL P f)
 (h:∀(S:Nat->Prop)(w:World)(vals:List Value),(∀b,S b->b<w.heap.size)->Go.V.D.base.inv S w->bj Go.V.D [] S w args vals->Calls P f vals.toArray w fun e w'=>∃u,e=.returned u/\Below w.heap.size w w'/\∃S':Nat->Prop,(∀b,S b->S' b)/\(∀b,S' b->S b\/(w.heap.size<=b/\b<w'.heap.size))/\Rep Go.V.D [] S' w' r u):RC Go.V.D P f args [] r []:=by
 refine⟨hf,fun ρ S w vals hs ha=>?_⟩;have hρ:ρ=[]:=by have:=hs.len;simpa using this
 subst hρ;have own:∀(w:World) b,¬Own Go.V.D w [] ([]:List (Ob K)) b:=fun w b hb=>by
  obtain⟨h,o,r,ho,_⟩:=hb;simp at ho
 refine(h S w vals hs.slt hs.base ha).mono ?_
 rintro e w' ⟨u,rfl,hb,S',h1,h2,h3⟩
 refine⟨u,[],S',rfl,⟨rfl,fun h o r ho _=>by simp at ho,fun h h' o o' r r' b ho=>by simp at ho,fun b hO=>absurd hO (own _ b),fun b hO=>?_,Go.V.D.base.mono h1 (fun b h=>hb.block b (hs.slt b h)) hs.base⟩,h3,
  ⟨hb.os,hb.tape,hb.output,hb.size,fun b hlt _=>hb.block b hlt,fun b hO=>absurd hO (own _ b),h1,fun b hO=>?_,fun h hh=>rfl⟩⟩
 ·rcases h2 b hO with h|h
  ·exact jU (hs.slt b h) hb.size
  ·exact h.2
 ·rcases h2 b hO with h|h
  ·exact .inl h
  ·exact .inr (.inr h.1)
theorem aiU{s sep:List UInt8}{r:List (List UInt8)}(h:M.strings_Split s sep=some r):sep=[46]/\s.length<4294967281/\cK.d6 s=r:=by
 unfold M.strings_Split at h;by_cases h1:sep=[46]
 ·by_cases h2:s.length<4294967281
  ·rw[h1]at h;simp only[h2,ed,da,cT,ad]at h;exact⟨h1,h2,gW h⟩
  ·simp[h2]at h
 ·have:(sep==[46])=false:=cM.2 h1;rw[this]at h;simp at h
theorem aiV:(MD M.mG).Ok Go.V.D Tryz.prog:=by
 intro x r hr;obtain⟨hl,hv⟩:List.length (α:=UInt8) x.1.1<=281474976710656/\M.dX x.1.1=r:=by
  change M.mG x.1.1=some r at hr;unfold M.mG at hr;by_cases h:List.length (α:=UInt8) x.1.1<=281474976710656
  ·simp only[h,ed,ad]at hr;exact⟨h,gW hr⟩
  ·simp[h]at hr
 subst hv;refine Ta ⟨Tryz.f74,Tryz.func74,by kernel_rfl,by kernel_rfl⟩ fun S w vals hS hB ha=>?_
 obtain⟨X,rfl,hX⟩:=zM (x:=.str x.1.1) ha;rw[iF hX];obtain⟨-,-,-,⟨ts,ps,hs⟩,⟨tr,pr,hr2⟩⟩:=id hB;refine(aiT _ hl w (aiR hB) ts tr ps pr hs hr2).mono ?_
 rintro e w' ⟨rfl,hb⟩
 exact⟨_,rfl,hb,S,fun _ h=>h,fun _ h=>.inl h,.bz (l:=[.int .i64 _,.bool _]) (vs:=[_,_]) rfl (bj.cons (.int _ _) (.cons (.bool _) .nil)).2⟩
set_option maxRecDepth 100000 in
theorem aiW(s:List UInt8)(hl:s.length<4294967281)(m:Int)(w:World)(hm:w.cell? ⟨0,0,none⟩=some (.int .i64 m)):
 Calls Tryz.prog 73 #[.string ⟨s.toArray⟩,.string ⟨#[46]⟩] w fun e w'=>e=.returned (.slice (some ⟨w.heap.size,0,none⟩) (cK.d6 s).length (cK.d6 s).length)/\w'=w.alloc (.cells ((cK.d6 s).map encStr).toArray 9):=by
 have h:=Any.strings_Split Tryz.laysSplit (by kernel_rfl) ⟨s.toArray⟩ ⟨#[46]⟩ m w (by show s.toArray.size<_;simpa using hl) hm (by decide);have e1:=cK.afT ⟨s.toArray⟩ ⟨#[46]⟩ rfl;have e2:(ByteArray.mk s.toArray).data.toList=s:=by simp
 rw[e2]at e1;have e3:(Lib.splitB ⟨#[46]⟩ 0 (Lib.countB ⟨s.toArray⟩ ⟨#[46]⟩) ⟨s.toArray⟩).map Value.string=(cK.d6 s).map encStr:=by
  rw[<-e1,List.map_map];refine List.map_congr_left fun x _=>?_
  show Value.string x=encStr x.data.toList
  simp[encStr]
 have e4:Lib.countB ⟨s.toArray⟩ ⟨#[46]⟩+1=(cK.d6 s).length:=by
  rw[<-e1,fk,Lib.splitB_all ⟨#[46]⟩ (by decide) 0 _ ⟨s.toArray⟩ rfl]
 rw[e3,e4]at h;exact h
theorem aiX:(ME M.strings_Split).Ok Go.V.D Tryz.prog:=by
 intro x r hr;obtain⟨hsep,hl,hv⟩:=aiU (s:=x.1.1) (sep:=x.1.2.1) hr;subst hv;refine Ta ⟨Tryz.f73,Tryz.func73,by kernel_rfl,by kernel_rfl⟩ fun S w vals hS hB ha=>?_
 obtain⟨X,r1,rfl,hX,hr1⟩:=bj.gq (v:=.str x.1.1) (l:=[.str x.1.2.1]) ha;obtain⟨Y,r2,rfl,hY,hr2⟩:=hr1.gq;rw[hr2.nw,iF hX,iF hY,hsep];obtain⟨-,⟨m,hm⟩,-⟩:=id hB;refine(aiW _ hl m w hm).mono ?_
 rintro e w' ⟨rfl,rfl⟩
 generalize cK.d6 x.1.1=zs;refine⟨_,rfl,(Below.refl _ w).alloc (ct _) _,fun b=>S b\/b=w.heap.size,fun _ h=>.inl h,fun b h=>h.imp id fun e=>by subst e;exact⟨ct _,by simp⟩,?_⟩;refine Rep.an (D:=Go.V.D) (c:=U.str) (l:=zs) (fun i=>[encStr (zs[i]?.getD [])]) (Or.inr rfl) (ct _) (fun i y hy=>rfl) (fun i hi j v hv=>?_) (fun i y hy j v u hv hu=>?_)
 ·cases j with
  |zero=>
   simp at hv;subst hv;have hz:zs[i]?=some zs[i]:=cF hi;have:(w.alloc (.cells (zs.map encStr).toArray 9)).cell? ⟨w.heap.size,0+i*K.sz U.str+0,none⟩=some (encStr zs[i]):=by
    have e:0+i*K.sz U.str+0=i:=by show 0+i*1+0=i;omega
    rw[e];have hn:(w.alloc (.cells (zs.map encStr).toArray 9)).heap[w.heap.size]?=some (.cells (zs.map encStr).toArray 9 (0,0)):=uJ _ _;simp only[World.cell?,hn];simp[hi]
   rw[this,hz];rfl
  |succ j=>simp at hv
 ·cases j with
  |zero=>
   simp at hu;subst hu;have:v=.str y:=by have:=hv;simp only[D,LZ,jI,sk,Sh.encs,List.getElem?_cons_zero,ax]at this;exact this.symm
   subst this;rw[hy];exact .str _
  |succ j=>simp at hu
end iu
end Go.Proofs
theorem aiY:(MD M.mG).Ok Go.V.D Go.Proofs.Tryz.prog:=Go.Proofs.iu.aiV
theorem aiZ:(ME M.strings_Split).Ok Go.V.D Go.Proofs.Tryz.prog:=Go.Proofs.iu.aiX
