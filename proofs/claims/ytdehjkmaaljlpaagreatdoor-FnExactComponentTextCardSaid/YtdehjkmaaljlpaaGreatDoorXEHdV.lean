/-
  The contracts of the program's decimals and of strings.Split at a dot.
-/
import Derived.Test.YtdehjkmaaljlpaaGreatDoorXEhand4
import Derived.Shelf.Abstract
import Derived.Shelf.Strconv.Itoa4
import Derived.Shelf.Strconv.ParseIntPublic10
import Derived.Shelf.Strings.Split
import Derived.Lib.AppendIntMem
import Derived.Lib.ParseIntBTie
import Derived.Lib.LaidTab
import Derived.Stop.IfaceNil
import Derived.WalkKit
import Derived.BigCall
import Derived.Ground.NamesProg
import Derived.Test.YtdehjkmaaljlpaaGreatDoorProg
set_option linter.unusedVariables false
noncomputable def CP(m:Int->Option (List UInt8)):Go.V.ax Go.V.K:={f:=51,sh:=⟨[.int .i64],[]⟩,R:=List UInt8,run:=fun x=>m x.1.1,dflt:=default,out:=fun r=>(Go.V.Sh.enc Go.V.D (.str) r,Go.V.bh.encs Go.V.D [] ())}
noncomputable def Ol(m:List UInt8->Option (Int×Bool)):Go.V.ax Go.V.K:={f:=164,sh:=⟨[.str],[]⟩,R:=Int×Bool,run:=fun x=>m x.1.1,dflt:=default,out:=fun r=>(Go.V.Sh.enc Go.V.D (.bU [.int .i64,.bool]) (r.1,(r.2,())),Go.V.bh.encs Go.V.D [] ())}
noncomputable def Oj(m:List UInt8->List UInt8->Option (List (List UInt8))):Go.V.ax Go.V.K:={f:=163,sh:=⟨[.str,.str],[]⟩,R:=List (List UInt8),run:=fun x=>m x.1.1 x.1.2.1,dflt:=default,out:=fun r=>(Go.V.Sh.enc Go.V.D (.ah Go.V.U.str) r,Go.V.bh.encs Go.V.D [] ())}
namespace Go.Proofs
open Go.RowKit Go.Shelf Go.V Go.Lib Go.Sort
theorem ahN{a:Option Func}{x y:Func}(h:a=some x)(k:x=y):a=some y:=h.trans (wH some k)
def Tryz.laysFI_ren:Go.Shelf.Ren:=⟨fun|173=>92|246=>138|283=>188|284=>189|285=>190|286=>191|129=>229|317=>228|318=>230|319=>231|320=>232|337=>272|338=>273|n=>n,fun|171=>232|53=>233|37=>121|173=>236|212=>270|51=>271|213=>272|46=>274|232=>358|233=>359|n=>n,fun|17=>0|18=>4|19=>5|n=>n⟩
theorem Tryz.laysFI:Go.Proofs.LaysM.n173 Tryz.prog Tryz.laysFI_ren:={
 mixed:=by kernel_rfl
 f129:=ahN Tryz.func229 (by kernel_rfl)
 f173:=ahN Tryz.func92 (by kernel_rfl)
 f246:=ahN Tryz.func138 (by kernel_rfl)
 f283:=ahN Tryz.func188 (by kernel_rfl)
 f284:=ahN Tryz.func189 (by kernel_rfl)
 f285:=ahN Tryz.func190 (by kernel_rfl)
 f286:=ahN Tryz.func191 (by kernel_rfl)
 f317:=ahN Tryz.func228 (by kernel_rfl)
 f318:=ahN Tryz.func230 (by kernel_rfl)
 f319:=ahN Tryz.func231 (by kernel_rfl)
 f320:=ahN Tryz.func232 (by kernel_rfl)
 f337:=ahN Tryz.func272 (by kernel_rfl)
 f338:=ahN Tryz.func273 (by kernel_rfl)
 t0:=Tryz.underlying0
 a0:=Tryz.isAgg0
 z0:=Tryz.sizeOf0
 v0:=Tryz.zeroValue0
 t2:=Tryz.underlying2
 a2:=Tryz.isAgg2
 z2:=Tryz.sizeOf2
 v2:=Tryz.zeroValue2
 t3:=Tryz.underlying3
 a3:=Tryz.isAgg3
 z3:=Tryz.sizeOf3
 v3:=Tryz.zeroValue3
 t4:=Tryz.underlying4
 a4:=Tryz.isAgg4
 z4:=Tryz.sizeOf4
 v4:=Tryz.zeroValue4
 t5:=Tryz.underlying5
 a5:=Tryz.isAgg5
 z5:=Tryz.sizeOf5
 v5:=Tryz.zeroValue5
 t9:=Tryz.underlying9
 a9:=Tryz.isAgg9
 z9:=Tryz.sizeOf9
 v9:=Tryz.zeroValue9
 t20:=Tryz.underlying20
 a20:=Tryz.isAgg20
 z20:=Tryz.sizeOf20
 v20:=Tryz.zeroValue20
 t37:=Tryz.underlying121
 a37:=Tryz.isAgg121
 z37:=Tryz.sizeOf121
 v37:=Tryz.zeroValue121
 t46:=Tryz.underlying274
 a46:=Tryz.isAgg274
 z46:=Tryz.sizeOf274
 v46:=Tryz.zeroValue274
 t51:=Tryz.underlying271
 a51:=Tryz.isAgg271
 z51:=Tryz.sizeOf271
 v51:=Tryz.zeroValue271
 t53:=Tryz.underlying233
 a53:=Tryz.isAgg233
 z53:=Tryz.sizeOf233
 v53:=Tryz.zeroValue233
 t171:=Tryz.underlying232
 a171:=Tryz.isAgg232
 z171:=Tryz.sizeOf232
 v171:=Tryz.zeroValue232
 t173:=Tryz.underlying236
 a173:=Tryz.isAgg236
 z173:=Tryz.sizeOf236
 v173:=Tryz.zeroValue236
 t212:=Tryz.underlying270
 a212:=Tryz.isAgg270
 z212:=Tryz.sizeOf270
 v212:=Tryz.zeroValue270
 t213:=Tryz.underlying272
 a213:=Tryz.isAgg272
 z213:=Tryz.sizeOf272
 t232:=Tryz.underlying358
 a232:=Tryz.isAgg358
 z232:=Tryz.sizeOf358
 v232:=Tryz.zeroValue358
 t233:=Tryz.underlying359
 a233:=Tryz.isAgg359
 z233:=Tryz.sizeOf359
 v233:=Tryz.zeroValue359
 g17:=by kernel_rfl
 g18:=by kernel_rfl
 g19:=by kernel_rfl
 i0:=by kernel_rfl
 i2:=by kernel_rfl
 i3:=by kernel_rfl
 i4:=by kernel_rfl
 i5:=by kernel_rfl
 i9:=by kernel_rfl
 i20:=by kernel_rfl
 i37:=by kernel_rfl
 i46:=by kernel_rfl
 i51:=by kernel_rfl
 i53:=by kernel_rfl
 i171:=by kernel_rfl
 i173:=by kernel_rfl
 i212:=by kernel_rfl
 i232:=by kernel_rfl
 i233:=by kernel_rfl
 m17:=by kernel_rfl
 m18:=by kernel_rfl
 m19:=by kernel_rfl}
theorem abp{a:Option Func}{x y:Func}(h:a=some x)(k:x=y):a=some y:=h.trans (wH some k)
def Tryz.laysPI_ren:Go.Shelf.Ren:=⟨fun|174=>210|247=>253|245=>254|287=>294|279=>295|280=>296|281=>297|282=>298|321=>337|322=>338|316=>339|171=>341|205=>340|243=>352|246=>138|283=>188|284=>189|285=>190|286=>191|129=>229|317=>228|318=>230|319=>231|320=>232|337=>272|338=>273|n=>n,fun|75=>147|85=>255|167=>336|53=>233|175=>337|46=>274|168=>339|37=>121|210=>373|127=>197|145=>391|143=>389|171=>232|173=>236|212=>270|51=>271|213=>272|232=>358|233=>359|80=>150|n=>n,fun|15=>6|16=>7|17=>0|18=>4|19=>5|n=>n⟩
theorem Tryz.laysPI:Go.Proofs.LaysC.n174 Tryz.prog Tryz.laysPI_ren:={
 mixed:=by kernel_rfl
 f129:=abp Tryz.func229 (by kernel_rfl)
 f171:=abp Tryz.func341 (by kernel_rfl)
 f174:=abp Tryz.func210 (by kernel_rfl)
 f205:=abp Tryz.func340 (by kernel_rfl)
 f243:=abp Tryz.func352 (by kernel_rfl)
 f245:=abp Tryz.func254 (by kernel_rfl)
 f246:=abp Tryz.func138 (by kernel_rfl)
 f247:=abp Tryz.func253 (by kernel_rfl)
 f279:=abp Tryz.func295 (by kernel_rfl)
 f280:=abp Tryz.func296 (by kernel_rfl)
 f281:=abp Tryz.func297 (by kernel_rfl)
 f282:=abp Tryz.func298 (by kernel_rfl)
 f283:=abp Tryz.func188 (by kernel_rfl)
 f284:=abp Tryz.func189 (by kernel_rfl)
 f285:=abp Tryz.func190 (by kernel_rfl)
 f286:=abp Tryz.func191 (by kernel_rfl)
 f287:=abp Tryz.func294 (by kernel_rfl)
 f316:=abp Tryz.func339 (by kernel_rfl)
 f317:=abp Tryz.func228 (by kernel_rfl)
 f318:=abp Tryz.func230 (by kernel_rfl)
 f319:=abp Tryz.func231 (by kernel_rfl)
 f320:=abp Tryz.func232 (by kernel_rfl)
 f321:=abp Tryz.func337 (by kernel_rfl)
 f322:=abp Tryz.func338 (by kernel_rfl)
 f337:=abp Tryz.func272 (by kernel_rfl)
 f338:=abp Tryz.func273 (by kernel_rfl)
 t0:=Tryz.underlying0
 a0:=Tryz.isAgg0
 z0:=Tryz.sizeOf0
 v0:=Tryz.zeroValue0
 t2:=Tryz.underlying2
 a2:=Tryz.isAgg2
 z2:=Tryz.sizeOf2
 v2:=Tryz.zeroValue2
 t3:=Tryz.underlying3
 a3:=Tryz.isAgg3
 z3:=Tryz.sizeOf3
 v3:=Tryz.zeroValue3
 t4:=Tryz.underlying4
 a4:=Tryz.isAgg4
 z4:=Tryz.sizeOf4
 v4:=Tryz.zeroValue4
 t5:=Tryz.underlying5
 a5:=Tryz.isAgg5
 z5:=Tryz.sizeOf5
 v5:=Tryz.zeroValue5
 t9:=Tryz.underlying9
 a9:=Tryz.isAgg9
 z9:=Tryz.sizeOf9
 v9:=Tryz.zeroValue9
 t20:=Tryz.underlying20
 a20:=Tryz.isAgg20
 z20:=Tryz.sizeOf20
 v20:=Tryz.zeroValue20
 t21:=Tryz.underlying21
 a21:=Tryz.isAgg21
 z21:=Tryz.sizeOf21
 v21:=Tryz.zeroValue21
 t37:=Tryz.underlying121
 a37:=Tryz.isAgg121
 z37:=Tryz.sizeOf121
 v37:=Tryz.zeroValue121
 t46:=Tryz.underlying274
 a46:=Tryz.isAgg274
 z46:=Tryz.sizeOf274
 v46:=Tryz.zeroValue274
 t51:=Tryz.underlying271
 a51:=Tryz.isAgg271
 z51:=Tryz.sizeOf271
 v51:=Tryz.zeroValue271
 t53:=Tryz.underlying233
 a53:=Tryz.isAgg233
 z53:=Tryz.sizeOf233
 v53:=Tryz.zeroValue233
 t75:=Tryz.underlying147
 a75:=Tryz.isAgg147
 z75:=Tryz.sizeOf147
 v75:=Tryz.zeroValue147
 t85:=Tryz.underlying255
 a85:=Tryz.isAgg255
 z85:=Tryz.sizeOf255
 v85:=Tryz.zeroValue255
 t127:=Tryz.underlying197
 a127:=Tryz.isAgg197
 z127:=Tryz.sizeOf197
 v127:=Tryz.zeroValue197
 t143:=Tryz.underlying389
 a143:=Tryz.isAgg389
 z143:=Tryz.sizeOf389
 v143:=Tryz.zeroValue389
 t145:=Tryz.underlying391
 a145:=Tryz.isAgg391
 z145:=Tryz.sizeOf391
 v145:=Tryz.zeroValue391
 t167:=Tryz.underlying336
 a167:=Tryz.isAgg336
 z167:=Tryz.sizeOf336
 v167:=Tryz.zeroValue336
 t168:=Tryz.underlying339
 a168:=Tryz.isAgg339
 z168:=Tryz.sizeOf339
 v168:=Tryz.zeroValue339
 t171:=Tryz.underlying232
 a171:=Tryz.isAgg232
 z171:=Tryz.sizeOf232
 v171:=Tryz.zeroValue232
 t173:=Tryz.underlying236
 a173:=Tryz.isAgg236
 z173:=Tryz.sizeOf236
 v173:=Tryz.zeroValue236
 t175:=Tryz.underlying337
 a175:=Tryz.isAgg337
 z175:=Tryz.sizeOf337
 v175:=Tryz.zeroValue337
 t210:=Tryz.underlying373
 a210:=Tryz.isAgg373
 z210:=Tryz.sizeOf373
 v210:=Tryz.zeroValue373
 t212:=Tryz.underlying270
 a212:=Tryz.isAgg270
 z212:=Tryz.sizeOf270
 v212:=Tryz.zeroValue270
 t213:=Tryz.underlying272
 a213:=Tryz.isAgg272
 z213:=Tryz.sizeOf272
 t232:=Tryz.underlying358
 a232:=Tryz.isAgg358
 z232:=Tryz.sizeOf358
 v232:=Tryz.zeroValue358
 t233:=Tryz.underlying359
 a233:=Tryz.isAgg359
 z233:=Tryz.sizeOf359
 v233:=Tryz.zeroValue359
 g15:=by kernel_rfl
 g16:=by kernel_rfl
 g17:=by kernel_rfl
 g18:=by kernel_rfl
 g19:=by kernel_rfl
 t80:=Tryz.underlying150
 a80:=Tryz.isAgg150
 z80:=Tryz.sizeOf150
 v80:=Tryz.zeroValue150
 i0:=by kernel_rfl
 i2:=by kernel_rfl
 i3:=by kernel_rfl
 i4:=by kernel_rfl
 i5:=by kernel_rfl
 i9:=by kernel_rfl
 i20:=by kernel_rfl
 i21:=by kernel_rfl
 i37:=by kernel_rfl
 i46:=by kernel_rfl
 i51:=by kernel_rfl
 i53:=by kernel_rfl
 i75:=by kernel_rfl
 i80:=by kernel_rfl
 i85:=by kernel_rfl
 i127:=by kernel_rfl
 i143:=by kernel_rfl
 i145:=by kernel_rfl
 i167:=by kernel_rfl
 i168:=by kernel_rfl
 i171:=by kernel_rfl
 i173:=by kernel_rfl
 i175:=by kernel_rfl
 i210:=by kernel_rfl
 i212:=by kernel_rfl
 i232:=by kernel_rfl
 i233:=by kernel_rfl
 m15:=by kernel_rfl
 m16:=by kernel_rfl
 m17:=by kernel_rfl
 m18:=by kernel_rfl
 m19:=by kernel_rfl
 c0:=by kernel_rfl
 c2:=by kernel_rfl
 c3:=by kernel_rfl
 c4:=by kernel_rfl
 c5:=by kernel_rfl
 c9:=by kernel_rfl
 c20:=by kernel_rfl
 c21:=by kernel_rfl
 c37:=by kernel_rfl
 c46:=by kernel_rfl
 c51:=by kernel_rfl
 c53:=by kernel_rfl
 c75:=by kernel_rfl
 c80:=by kernel_rfl
 c85:=by kernel_rfl
 c127:=by kernel_rfl
 c143:=by kernel_rfl
 c145:=by kernel_rfl
 c167:=by kernel_rfl
 c168:=by kernel_rfl
 c171:=by kernel_rfl
 c173:=by kernel_rfl
 c175:=by kernel_rfl
 c210:=by kernel_rfl
 c212:=by kernel_rfl
 c213:=by kernel_rfl
 c232:=by kernel_rfl
 c233:=by kernel_rfl}
theorem ahM{a:Option Func}{x y:Func}(h:a=some x)(k:x=y):a=some y:=h.trans (wH some k)
def Tryz.laysSplit_ren:Go.Shelf.Ren:=⟨fun|146=>163|221=>209|268=>250|138=>251|143=>252|195=>290|197=>291|218=>292|219=>293|260=>332|217=>333|225=>334|224=>335|267=>336|266=>350|314=>351|n=>n,fun|31=>65|105=>333|46=>274|119=>276|139=>386|138=>385|146=>387|51=>271|n=>n,fun|3=>8|4=>9|n=>n⟩
theorem Tryz.laysSplit:Go.Proofs.Lays.n146 Tryz.prog Tryz.laysSplit_ren:={
 mixed:=by kernel_rfl
 f138:=ahM Tryz.func251 (by kernel_rfl)
 f143:=ahM Tryz.func252 (by kernel_rfl)
 f146:=ahM Tryz.func163 (by kernel_rfl)
 f195:=ahM Tryz.func290 (by kernel_rfl)
 f197:=ahM Tryz.func291 (by kernel_rfl)
 f217:=ahM Tryz.func333 (by kernel_rfl)
 f218:=ahM Tryz.func292 (by kernel_rfl)
 f219:=ahM Tryz.func293 (by kernel_rfl)
 f221:=ahM Tryz.func209 (by kernel_rfl)
 f224:=ahM Tryz.func335 (by kernel_rfl)
 f225:=ahM Tryz.func334 (by kernel_rfl)
 f260:=ahM Tryz.func332 (by kernel_rfl)
 f266:=ahM Tryz.func350 (by kernel_rfl)
 f267:=ahM Tryz.func336 (by kernel_rfl)
 f268:=ahM Tryz.func250 (by kernel_rfl)
 f314:=ahM Tryz.func351 (by kernel_rfl)
 t0:=Tryz.underlying0
 a0:=Tryz.isAgg0
 z0:=Tryz.sizeOf0
 v0:=Tryz.zeroValue0
 t3:=Tryz.underlying3
 a3:=Tryz.isAgg3
 z3:=Tryz.sizeOf3
 v3:=Tryz.zeroValue3
 t4:=Tryz.underlying4
 a4:=Tryz.isAgg4
 z4:=Tryz.sizeOf4
 v4:=Tryz.zeroValue4
 t5:=Tryz.underlying5
 a5:=Tryz.isAgg5
 z5:=Tryz.sizeOf5
 v5:=Tryz.zeroValue5
 t9:=Tryz.underlying9
 a9:=Tryz.isAgg9
 z9:=Tryz.sizeOf9
 v9:=Tryz.zeroValue9
 t21:=Tryz.underlying21
 a21:=Tryz.isAgg21
 z21:=Tryz.sizeOf21
 v21:=Tryz.zeroValue21
 t31:=Tryz.underlying65
 a31:=Tryz.isAgg65
 z31:=Tryz.sizeOf65
 v31:=Tryz.zeroValue65
 t46:=Tryz.underlying274
 a46:=Tryz.isAgg274
 z46:=Tryz.sizeOf274
 v46:=Tryz.zeroValue274
 t51:=Tryz.underlying271
 a51:=Tryz.isAgg271
 z51:=Tryz.sizeOf271
 v51:=Tryz.zeroValue271
 t105:=Tryz.underlying333
 a105:=Tryz.isAgg333
 z105:=Tryz.sizeOf333
 v105:=Tryz.zeroValue333
 t119:=Tryz.underlying276
 a119:=Tryz.isAgg276
 z119:=Tryz.sizeOf276
 t138:=Tryz.underlying385
 a138:=Tryz.isAgg385
 z138:=Tryz.sizeOf385
 v138:=Tryz.zeroValue385
 t139:=Tryz.underlying386
 a139:=Tryz.isAgg386
 z139:=Tryz.sizeOf386
 v139:=Tryz.zeroValue386
 t146:=Tryz.underlying387
 a146:=Tryz.isAgg387
 z146:=Tryz.sizeOf387
 v146:=Tryz.zeroValue387
 g1:=by kernel_rfl
 g3:=by kernel_rfl
 g4:=by kernel_rfl}
namespace fD
theorem ah5{S:Nat->Prop}{w:World}(hB:Go.V.D.base.inv S w):Lib.TabIs Tryz.prog w "internal/strconv.uint64pow10" .u64 Lib.pow10Tab:=by
 obtain⟨-,-,⟨T,fr,hT⟩,-⟩:=hB;have hg:Tryz.prog.globalNamed "internal/strconv.uint64pow10" =some 0:=by kernel_rfl
 unfold Lib.TabIs World.var?;rw[hg];simp[hT]
set_option maxRecDepth 100000 in
theorem OS(n:Int)(h0: -9223372036854775808<=n)(h1:n<=9223372036854775807)(w:World)(htab:Lib.TabIs Tryz.prog w "internal/strconv.uint64pow10" .u64 Lib.pow10Tab):
 Calls Tryz.prog 51 #[.int .i64 n] w fun e w'=>e=.returned (.string ⟨(Lib.itoa n).toArray⟩)/\Below w.heap.size w w':=by
 go_enter Tryz.func51,Tryz.ntmps51
 go_wp2_with (go_at_call 92;refine(Any.strconv_FormatInt_10 Tryz.laysFI n h0 h1 _ htab).mono ?_;rintro e w' ⟨rfl,k,os,rfl⟩)
 go_ret
 exact⟨rfl,Lib.below_grow _ _ (bY _) _ _⟩
theorem tab_below{w w':World}(h:Below w.heap.size w w')(htab:Lib.TabIs Tryz.prog w "internal/strconv.uint64pow10" .u64 Lib.pow10Tab):Lib.TabIs Tryz.prog w' "internal/strconv.uint64pow10" .u64 Lib.pow10Tab:=
 Lib.tabBelow_of_tabIs htab w' h
theorem az2{s:List UInt8}{v:Int}(h:Lib.parseIntB 64 s=.ok v): -9223372036854775808<=v/\v<=9223372036854775807:=by
 obtain⟨a,b⟩:=Lib.parseIntB_bounds h;have e:((2^(64-1):Nat):Int)=9223372036854775808:=by decide
 rw[e]at a b;omega
set_option maxRecDepth 100000 in
theorem az3(s:List UInt8)(hl:s.length<=281474976710656)(w:World)(htab:Lib.TabIs Tryz.prog w "internal/strconv.uint64pow10" .u64 Lib.pow10Tab)
 (ts tr:TypeId) (ps pr:Value) (hS:w.cell? ⟨6,0,none⟩=some (.iface ts ps)) (hR:w.cell? ⟨7,0,none⟩=some (.iface tr pr)):
 Calls Tryz.prog 164 #[.string ⟨s.toArray⟩] w fun e w'=>e=.returned (.tuple #[.int .i64 (M.eS s).1,.bool (M.eS s).2])/\Below w.heap.size w w':=by
 have hsz:(ByteArray.mk s.toArray).size=s.length:=pG;have hd:(ByteArray.mk s.toArray).data.toList=s:=by simp
 cases hp:Lib.parseIntB 64 s with
 |ok v=>
  obtain⟨v0,v1⟩:=az2 hp;by_cases he:Lib.itoa v=s
  ·have hr:M.eS s=(v,true):=by unfold M.eS;rw[hp];simp only;rw[aE he]
   rw[hr]
   go_enter Tryz.func164,Tryz.ntmps164
   go_wp2_with (go_at_call 210;refine(Any.strconv_ParseInt_10_at64_ok Tryz.laysPI ⟨s.toArray⟩ (by omega) v (by rw[hd];exact hp) _).mono ?_;rintro e W1 ⟨rfl,hW⟩)
   have hb1:Below w.heap.size w W1:=by
    rcases hW with rfl|⟨t,rfl⟩
    ·exact Below.refl _ _
    ·exact Lib.bytesWorld_below _ _ _
   clear hW
   go_wp2_with (go_at_call 51;refine(OS v v0 v1 _ ?_).mono ?_)
   ·exact tab_below hb1 htab
   rintro e W2 ⟨rfl,hb2⟩
   have hb:Below w.heap.size w W2:=hb1.trans (hb2.mono hb1.size);rw[he]
   go_wp2
   go_ret2
   exact⟨rfl,hb⟩
  ·have hr:M.eS s=(0,false):=by unfold M.eS;rw[hp];simp only;rw[av he]
   rw[hr]
   go_enter Tryz.func164,Tryz.ntmps164
   go_wp2_with (go_at_call 210;refine(Any.strconv_ParseInt_10_at64_ok Tryz.laysPI ⟨s.toArray⟩ (by omega) v (by rw[hd];exact hp) _).mono ?_;rintro e W1 ⟨rfl,hW⟩)
   have hb1:Below w.heap.size w W1:=by
    rcases hW with rfl|⟨t,rfl⟩
    ·exact Below.refl _ _
    ·exact Lib.bytesWorld_below _ _ _
   clear hW
   go_wp2_with (go_at_call 51;refine(OS v v0 v1 _ ?_).mono ?_)
   ·exact tab_below hb1 htab
   rintro e W2 ⟨rfl,hb2⟩
   have hb:Below w.heap.size w W2:=hb1.trans (hb2.mono hb1.size);have hne:(Lib.itoa v==s)=false:=dS.2 he
   go_wp2
   go_ret2
   exact⟨rfl,hb⟩
 |range=>
  have hr:M.eS s=(0,false):=by unfold M.eS;rw[hp]
  rw[hr]
  go_enter Tryz.func164,Tryz.ntmps164
  go_wp2_with (go_at_call 210;refine(Any.strconv_ParseInt_10_at64_range Tryz.laysPI ⟨s.toArray⟩ (by omega) (by rw[hd];exact hp) _ _ hR (Or.inr ⟨tr,pr,rfl⟩)).mono ?_;rintro e W1 ⟨N,rfl,-,-,hb⟩)
  go_wp2
  go_ret2
  exact⟨rfl,hb⟩
 |_=>
  have hr:M.eS s=(0,false):=by unfold M.eS;rw[hp]
  rw[hr]
  go_enter Tryz.func164,Tryz.ntmps164
  go_wp2_with (go_at_call 210;refine(Any.strconv_ParseInt_10_at64_syntax Tryz.laysPI ⟨s.toArray⟩ (by omega) (by rw[hd];exact hp) _ _ hS (Or.inr ⟨ts,ps,rfl⟩)).mono ?_;rintro e W1 ⟨N,rfl,-,-,hb⟩)
  go_wp2
  go_ret2
  exact⟨rfl,hb⟩
theorem KB{P:Program}{f:FuncId}{args:List (AV K)}{r:AV K}(hf:tV P f)
 (h:∀(S:Nat->Prop)(w:World)(vals:List Value),(∀b,S b->b<w.heap.size)->Go.V.D.base.inv S w->bE Go.V.D [] S w args vals->Calls P f vals.toArray w fun e w'=>∃u,e=.returned u/\Below w.heap.size w w'/\∃S':Nat->Prop,(∀b,S b->S' b)/\(∀b,S' b->S b\/(w.heap.size<=b/\b<w'.heap.size))/\Rep Go.V.D [] S' w' r u):RC Go.V.D P f args [] r []:=by
 refine⟨hf,fun ρ S w vals hs ha=>?_⟩;have hρ:ρ=[]:=by have:=hs.len;simpa using this
 subst hρ;have own:∀(w:World) b,¬Own Go.V.D w [] ([]:List (Ob K)) b:=fun w b hb=>by
  obtain⟨h,o,r,ho,_⟩:=hb;simp at ho
 refine(h S w vals hs.slt hs.base ha).mono ?_
 rintro e w' ⟨u,rfl,hb,S',h1,h2,h3⟩
 refine⟨u,[],S',rfl,⟨rfl,fun h o r ho _=>by simp at ho,fun h h' o o' r r' b ho=>by simp at ho,fun b hO=>absurd hO (own _ b),fun b hO=>?_,Go.V.D.base.mono h1 (fun b h=>hb.block b (hs.slt b h)) hs.base⟩,h3,
  ⟨hb.os,hb.tape,hb.output,hb.size,fun b hlt _=>hb.block b hlt,fun b hO=>absurd hO (own _ b),h1,fun b hO=>?_,fun h hh=>rfl⟩⟩
 ·rcases h2 b hO with h|h
  ·exact ju (hs.slt b h) hb.size
  ·exact h.2
 ·rcases h2 b hO with h|h
  ·exact .inl h
  ·exact .inr (.inr h.1)
theorem az4{n:Int}{r:List UInt8}(h:M.iv n=some r):(-9223372036854775808<=n/\n<=9223372036854775807)/\Lib.itoa n=r:=by
 unfold M.iv at h;by_cases h1: -9223372036854775808<=n/\n<=9223372036854775807
 ·simp only[h1.1,h1.2,bg,aR,aA]at h;exact⟨h1,f6 h⟩
 ·have:(decide (-9223372036854775808<=n)&&decide (n<=9223372036854775807))=false:=by
   rw[Bool.and_eq_false_iff,dR,dR];exact Classical.not_and_iff_not_or_not.1 h1
  rw[this]at h;cases h
theorem az5{s sep:List UInt8}{r:List (List UInt8)}(h:M.strings_Split s sep=some r):sep=[46]/\s.length<4294967281/\dL.eB s=r:=by
 unfold M.strings_Split at h;by_cases h1:sep=[46]
 ·by_cases h2:s.length<4294967281
  ·rw[h1]at h;simp only[h2,bg,lF,aR,aA]at h;exact⟨h1,h2,f6 h⟩
  ·simp[h2]at h
 ·have:(sep==[46])=false:=dS.2 h1;rw[this]at h;simp at h
theorem az6:(CP M.iv).Ok Go.V.D Tryz.prog:=by
 intro x r hr;obtain⟨hl,hv⟩:=az4 (n:=x.1.1) hr;subst hv;refine KB ⟨Tryz.f51,Tryz.func51,by kernel_rfl,by kernel_rfl⟩ fun S w vals hS hB ha=>?_
 obtain⟨X,rfl,hX⟩:=wN (x:=.int .i64 x.1.1) ha;rw[f7 hX];refine(OS _ hl.1 hl.2 w (ah5 hB)).mono ?_
 rintro e w' ⟨rfl,hb⟩
 exact⟨_,rfl,hb,S,fun _ h=>h,fun _ h=>.inl h,.str _⟩
theorem az7:(Ol M.qE).Ok Go.V.D Tryz.prog:=by
 intro x r hr;obtain⟨hl,hv⟩:List.length (α:=UInt8) x.1.1<=281474976710656/\M.eS x.1.1=r:=by
  change M.qE x.1.1=some r at hr;unfold M.qE at hr;by_cases h:List.length (α:=UInt8) x.1.1<=281474976710656
  ·simp only[h,bg,aA]at hr;exact⟨h,f6 hr⟩
  ·simp[h]at hr
 subst hv;refine KB ⟨Tryz.f164,Tryz.func164,by kernel_rfl,by kernel_rfl⟩ fun S w vals hS hB ha=>?_
 obtain⟨X,rfl,hX⟩:=wN (x:=.str x.1.1) ha;rw[gX hX];obtain⟨-,-,-,⟨ts,ps,hs⟩,⟨tr,pr,hr2⟩⟩:=id hB;refine(az3 _ hl w (ah5 hB) ts tr ps pr hs hr2).mono ?_
 rintro e w' ⟨rfl,hb⟩
 exact⟨_,rfl,hb,S,fun _ h=>h,fun _ h=>.inl h,.bU (l:=[.int .i64 _,.bool _]) (vs:=[_,_]) rfl (bE.cons (.int _ _) (.cons (.bool _) .nil)).2⟩
set_option maxRecDepth 100000 in
theorem az8(s:List UInt8)(hl:s.length<4294967281)(m:Int)(w:World)(hm:w.cell? ⟨1,0,none⟩=some (.int .i64 m)):
 Calls Tryz.prog 163 #[.string ⟨s.toArray⟩,.string ⟨#[46]⟩] w fun e w'=>e=.returned (.slice (some ⟨w.heap.size,0,none⟩) (dL.eB s).length (dL.eB s).length)/\w'=w.alloc (.cells ((dL.eB s).map encStr).toArray 9):=by
 have h:=Any.strings_Split Tryz.laysSplit (by kernel_rfl) ⟨s.toArray⟩ ⟨#[46]⟩ m w (by show s.toArray.size<_;simpa using hl) hm (by decide);have e1:=dL.az9 ⟨s.toArray⟩ ⟨#[46]⟩ rfl;have e2:(ByteArray.mk s.toArray).data.toList=s:=by simp
 rw[e2]at e1;have e3:(Lib.splitB ⟨#[46]⟩ 0 (Lib.countB ⟨s.toArray⟩ ⟨#[46]⟩) ⟨s.toArray⟩).map Value.string=(dL.eB s).map encStr:=by
  rw[<-e1,zz];refine List.map_congr_left fun x _=>?_
  show Value.string x=encStr x.data.toList
  simp[encStr]
 have e4:Lib.countB ⟨s.toArray⟩ ⟨#[46]⟩+1=(dL.eB s).length:=by
  rw[<-e1,cr,Lib.splitB_all ⟨#[46]⟩ (by decide) 0 _ ⟨s.toArray⟩ rfl]
 rw[e3,e4]at h;exact h
theorem aAa:(Oj M.strings_Split).Ok Go.V.D Tryz.prog:=by
 intro x r hr;obtain⟨hsep,hl,hv⟩:=az5 (s:=x.1.1) (sep:=x.1.2.1) hr;subst hv;refine KB ⟨Tryz.f163,Tryz.func163,by kernel_rfl,by kernel_rfl⟩ fun S w vals hS hB ha=>?_
 obtain⟨X,r1,rfl,hX,hr1⟩:=bE.fE (v:=.str x.1.1) (l:=[.str x.1.2.1]) ha;obtain⟨Y,r2,rfl,hY,hr2⟩:=hr1.fE;rw[hr2.lS,gX hX,gX hY,hsep];obtain⟨-,⟨m,hm⟩,-⟩:=id hB;refine(az8 _ hl m w hm).mono ?_
 rintro e w' ⟨rfl,rfl⟩
 generalize dL.eB x.1.1=zs;refine⟨_,rfl,(Below.refl _ w).alloc (bY _) _,fun b=>S b\/b=w.heap.size,fun _ h=>.inl h,fun b h=>h.imp id fun e=>by subst e;exact⟨bY _,by simp⟩,?_⟩;refine Rep.ah (D:=Go.V.D) (c:=U.str) (l:=zs) (fun i=>[encStr (zs[i]?.getD [])]) (Or.inr rfl) (bY _) (fun i y hy=>rfl) (fun i hi j v hv=>?_) (fun i y hy j v u hv hu=>?_)
 ·cases j with
  |zero=>
   simp at hv;subst hv;have hz:zs[i]?=some zs[i]:=ct hi;have:(w.alloc (.cells (zs.map encStr).toArray 9)).cell? ⟨w.heap.size,0+i*K.sz U.str+0,none⟩=some (encStr zs[i]):=by
    have e:0+i*K.sz U.str+0=i:=by show 0+i*1+0=i;omega
    rw[e];have hn:(w.alloc (.cells (zs.map encStr).toArray 9)).heap[w.heap.size]?=some (.cells (zs.map encStr).toArray 9 (0,0)):=wT _ _;simp only[World.cell?,hn];simp[hi]
   rw[this,hz];rfl
  |succ j=>simp at hv
 ·cases j with
  |zero=>
   simp at hu;subst hu;have:v=.str y:=by have:=hv;simp only[D,KC,je,qO,Sh.encs,List.getElem?_cons_zero,aD]at this;exact this.symm
   subst this;rw[hy];exact .str _
  |succ j=>simp at hu
end fD
end Go.Proofs
theorem NC:(CP M.iv).Ok Go.V.D Go.Proofs.Tryz.prog:=Go.Proofs.fD.az6
theorem awW:(Ol M.qE).Ok Go.V.D Go.Proofs.Tryz.prog:=Go.Proofs.fD.az7
theorem awV:(Oj M.strings_Split).Ok Go.V.D Go.Proofs.Tryz.prog:=Go.Proofs.fD.aAa
