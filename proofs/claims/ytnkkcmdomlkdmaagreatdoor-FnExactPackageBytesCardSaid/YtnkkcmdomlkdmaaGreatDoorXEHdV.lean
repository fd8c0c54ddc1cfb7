/-
  The contracts of the program's decimals and of strings.Split at a dot.
-/
import Derived.Test.YtnkkcmdomlkdmaaGreatDoorXEhand4
import Derived.Shelf.Abstract
import Derived.Shelf.Strconv.Itoa4
import Derived.Shelf.Strconv.ParseIntPublic10
import Derived.Shelf.Strings.Split
import Derived.Lib.AppendIntMem
import Derived.Lib.ParseIntBTie
import Derived.Lib.LaidTab
import Derived.Stop.IfaceNil
import Derived.WalkKit
import Derived.BigCall
import Derived.Ground.NamesProg
import Derived.Test.YtnkkcmdomlkdmaaGreatDoorProg
set_option linter.unusedVariables false
noncomputable def aF0(m:Int->Option (List UInt8)):Go.V.an Go.V.K:={f:=254,sh:=⟨[.int .i64],[]⟩,R:=List UInt8,run:=fun x=>m x.1.1,dflt:=default,out:=fun r=>(Go.V.Sh.enc Go.V.D (.str) r,Go.V.bk.encs Go.V.D [] ())}
noncomputable def PS(m:List UInt8->Option (Int×Bool)):Go.V.an Go.V.K:={f:=200,sh:=⟨[.str],[]⟩,R:=Int×Bool,run:=fun x=>m x.1.1,dflt:=default,out:=fun r=>(Go.V.Sh.enc Go.V.D (.bQ [.int .i64,.bool]) (r.1,(r.2,())),Go.V.bk.encs Go.V.D [] ())}
noncomputable def PR(m:List UInt8->List UInt8->Option (List (List UInt8))):Go.V.an Go.V.K:={f:=199,sh:=⟨[.str,.str],[]⟩,R:=List (List UInt8),run:=fun x=>m x.1.1 x.1.2.1,dflt:=default,out:=fun r=>(Go.V.Sh.enc Go.V.D (.ah Go.V.U.str) r,Go.V.bk.encs Go.V.D [] ())}
namespace Go.Proofs
open Go.RowKit Go.Shelf Go.V Go.Lib Go.Sort
theorem me{a:Option Func}{x y:Func}(h:a=some x)(k:x=y):a=some y:=h.trans (xw some k)
def Tryz.laysFI_ren:Go.Shelf.Ren:=⟨fun|173=>298|246=>337|283=>374|284=>375|285=>376|286=>377|129=>360|317=>387|318=>388|319=>389|320=>390|337=>392|338=>393|n=>n,fun|171=>385|53=>358|37=>71|173=>387|212=>405|51=>376|213=>406|46=>121|232=>411|233=>412|n=>n,fun|17=>5|18=>6|19=>7|n=>n⟩
theorem Tryz.laysFI:Go.Proofs.LaysM.n173 Tryz.prog Tryz.laysFI_ren:={
 mixed:=by kernel_rfl
 f129:=me Tryz.func360 (by kernel_rfl)
 f173:=me Tryz.func298 (by kernel_rfl)
 f246:=me Tryz.func337 (by kernel_rfl)
 f283:=me Tryz.func374 (by kernel_rfl)
 f284:=me Tryz.func375 (by kernel_rfl)
 f285:=me Tryz.func376 (by kernel_rfl)
 f286:=me Tryz.func377 (by kernel_rfl)
 f317:=me Tryz.func387 (by kernel_rfl)
 f318:=me Tryz.func388 (by kernel_rfl)
 f319:=me Tryz.func389 (by kernel_rfl)
 f320:=me Tryz.func390 (by kernel_rfl)
 f337:=me Tryz.func392 (by kernel_rfl)
 f338:=me Tryz.func393 (by kernel_rfl)
 t0:=Tryz.underlying0
 a0:=Tryz.isAgg0
 z0:=Tryz.sizeOf0
 v0:=Tryz.zeroValue0
 t2:=Tryz.underlying2
 a2:=Tryz.isAgg2
 z2:=Tryz.sizeOf2
 v2:=Tryz.zeroValue2
 t3:=Tryz.underlying3
 a3:=Tryz.isAgg3
 z3:=Tryz.sizeOf3
 v3:=Tryz.zeroValue3
 t4:=Tryz.underlying4
 a4:=Tryz.isAgg4
 z4:=Tryz.sizeOf4
 v4:=Tryz.zeroValue4
 t5:=Tryz.underlying5
 a5:=Tryz.isAgg5
 z5:=Tryz.sizeOf5
 v5:=Tryz.zeroValue5
 t9:=Tryz.underlying9
 a9:=Tryz.isAgg9
 z9:=Tryz.sizeOf9
 v9:=Tryz.zeroValue9
 t20:=Tryz.underlying20
 a20:=Tryz.isAgg20
 z20:=Tryz.sizeOf20
 v20:=Tryz.zeroValue20
 t37:=Tryz.underlying71
 a37:=Tryz.isAgg71
 z37:=Tryz.sizeOf71
 v37:=Tryz.zeroValue71
 t46:=Tryz.underlying121
 a46:=Tryz.isAgg121
 z46:=Tryz.sizeOf121
 v46:=Tryz.zeroValue121
 t51:=Tryz.underlying376
 a51:=Tryz.isAgg376
 z51:=Tryz.sizeOf376
 v51:=Tryz.zeroValue376
 t53:=Tryz.underlying358
 a53:=Tryz.isAgg358
 z53:=Tryz.sizeOf358
 v53:=Tryz.zeroValue358
 t171:=Tryz.underlying385
 a171:=Tryz.isAgg385
 z171:=Tryz.sizeOf385
 v171:=Tryz.zeroValue385
 t173:=Tryz.underlying387
 a173:=Tryz.isAgg387
 z173:=Tryz.sizeOf387
 v173:=Tryz.zeroValue387
 t212:=Tryz.underlying405
 a212:=Tryz.isAgg405
 z212:=Tryz.sizeOf405
 v212:=Tryz.zeroValue405
 t213:=Tryz.underlying406
 a213:=Tryz.isAgg406
 z213:=Tryz.sizeOf406
 t232:=Tryz.underlying411
 a232:=Tryz.isAgg411
 z232:=Tryz.sizeOf411
 v232:=Tryz.zeroValue411
 t233:=Tryz.underlying412
 a233:=Tryz.isAgg412
 z233:=Tryz.sizeOf412
 v233:=Tryz.zeroValue412
 g17:=by kernel_rfl
 g18:=by kernel_rfl
 g19:=by kernel_rfl
 i0:=by kernel_rfl
 i2:=by kernel_rfl
 i3:=by kernel_rfl
 i4:=by kernel_rfl
 i5:=by kernel_rfl
 i9:=by kernel_rfl
 i20:=by kernel_rfl
 i37:=by kernel_rfl
 i46:=by kernel_rfl
 i51:=by kernel_rfl
 i53:=by kernel_rfl
 i171:=by kernel_rfl
 i173:=by kernel_rfl
 i212:=by kernel_rfl
 i232:=by kernel_rfl
 i233:=by kernel_rfl
 m17:=by kernel_rfl
 m18:=by kernel_rfl
 m19:=by kernel_rfl}
theorem gj{a:Option Func}{x y:Func}(h:a=some x)(k:x=y):a=some y:=h.trans (xw some k)
def Tryz.laysPI_ren:Go.Shelf.Ren:=⟨fun|174=>253|247=>296|245=>297|287=>332|279=>333|280=>334|281=>335|282=>336|321=>369|322=>370|316=>371|171=>373|205=>372|243=>386|246=>337|283=>374|284=>375|285=>376|286=>377|129=>360|317=>387|318=>388|319=>389|320=>390|337=>392|338=>393|n=>n,fun|75=>131|85=>289|167=>357|53=>358|175=>359|46=>121|168=>361|37=>71|210=>382|127=>180|145=>403|143=>401|171=>385|173=>387|212=>405|51=>376|213=>406|232=>411|233=>412|80=>134|n=>n,fun|15=>1|16=>2|17=>5|18=>6|19=>7|n=>n⟩
theorem Tryz.laysPI:Go.Proofs.LaysC.n174 Tryz.prog Tryz.laysPI_ren:={
 mixed:=by kernel_rfl
 f129:=gj Tryz.func360 (by kernel_rfl)
 f171:=gj Tryz.func373 (by kernel_rfl)
 f174:=gj Tryz.func253 (by kernel_rfl)
 f205:=gj Tryz.func372 (by kernel_rfl)
 f243:=gj Tryz.func386 (by kernel_rfl)
 f245:=gj Tryz.func297 (by kernel_rfl)
 f246:=gj Tryz.func337 (by kernel_rfl)
 f247:=gj Tryz.func296 (by kernel_rfl)
 f279:=gj Tryz.func333 (by kernel_rfl)
 f280:=gj Tryz.func334 (by kernel_rfl)
 f281:=gj Tryz.func335 (by kernel_rfl)
 f282:=gj Tryz.func336 (by kernel_rfl)
 f283:=gj Tryz.func374 (by kernel_rfl)
 f284:=gj Tryz.func375 (by kernel_rfl)
 f285:=gj Tryz.func376 (by kernel_rfl)
 f286:=gj Tryz.func377 (by kernel_rfl)
 f287:=gj Tryz.func332 (by kernel_rfl)
 f316:=gj Tryz.func371 (by kernel_rfl)
 f317:=gj Tryz.func387 (by kernel_rfl)
 f318:=gj Tryz.func388 (by kernel_rfl)
 f319:=gj Tryz.func389 (by kernel_rfl)
 f320:=gj Tryz.func390 (by kernel_rfl)
 f321:=gj Tryz.func369 (by kernel_rfl)
 f322:=gj Tryz.func370 (by kernel_rfl)
 f337:=gj Tryz.func392 (by kernel_rfl)
 f338:=gj Tryz.func393 (by kernel_rfl)
 t0:=Tryz.underlying0
 a0:=Tryz.isAgg0
 z0:=Tryz.sizeOf0
 v0:=Tryz.zeroValue0
 t2:=Tryz.underlying2
 a2:=Tryz.isAgg2
 z2:=Tryz.sizeOf2
 v2:=Tryz.zeroValue2
 t3:=Tryz.underlying3
 a3:=Tryz.isAgg3
 z3:=Tryz.sizeOf3
 v3:=Tryz.zeroValue3
 t4:=Tryz.underlying4
 a4:=Tryz.isAgg4
 z4:=Tryz.sizeOf4
 v4:=Tryz.zeroValue4
 t5:=Tryz.underlying5
 a5:=Tryz.isAgg5
 z5:=Tryz.sizeOf5
 v5:=Tryz.zeroValue5
 t9:=Tryz.underlying9
 a9:=Tryz.isAgg9
 z9:=Tryz.sizeOf9
 v9:=Tryz.zeroValue9
 t20:=Tryz.underlying20
 a20:=Tryz.isAgg20
 z20:=Tryz.sizeOf20
 v20:=Tryz.zeroValue20
 t21:=Tryz.underlying21
 a21:=Tryz.isAgg21
 z21:=Tryz.sizeOf21
 v21:=Tryz.zeroValue21
 t37:=Tryz.underlying71
 a37:=Tryz.isAgg71
 z37:=Tryz.sizeOf71
 v37:=Tryz.zeroValue71
 t46:=Tryz.underlying121
 a46:=Tryz.isAgg121
 z46:=Tryz.sizeOf121
 v46:=Tryz.zeroValue121
 t51:=Tryz.underlying376
 a51:=Tryz.isAgg376
 z51:=Tryz.sizeOf376
 v51:=Tryz.zeroValue376
 t53:=Tryz.underlying358
 a53:=Tryz.isAgg358
 z53:=Tryz.sizeOf358
 v53:=Tryz.zeroValue358
 t75:=Tryz.underlying131
 a75:=Tryz.isAgg131
 z75:=Tryz.sizeOf131
 v75:=Tryz.zeroValue131
 t85:=Tryz.underlying289
 a85:=Tryz.isAgg289
 z85:=Tryz.sizeOf289
 v85:=Tryz.zeroValue289
 t127:=Tryz.underlying180
 a127:=Tryz.isAgg180
 z127:=Tryz.sizeOf180
 v127:=Tryz.zeroValue180
 t143:=Tryz.underlying401
 a143:=Tryz.isAgg401
 z143:=Tryz.sizeOf401
 v143:=Tryz.zeroValue401
 t145:=Tryz.underlying403
 a145:=Tryz.isAgg403
 z145:=Tryz.sizeOf403
 v145:=Tryz.zeroValue403
 t167:=Tryz.underlying357
 a167:=Tryz.isAgg357
 z167:=Tryz.sizeOf357
 v167:=Tryz.zeroValue357
 t168:=Tryz.underlying361
 a168:=Tryz.isAgg361
 z168:=Tryz.sizeOf361
 v168:=Tryz.zeroValue361
 t171:=Tryz.underlying385
 a171:=Tryz.isAgg385
 z171:=Tryz.sizeOf385
 v171:=Tryz.zeroValue385
 t173:=Tryz.underlying387
 a173:=Tryz.isAgg387
 z173:=Tryz.sizeOf387
 v173:=Tryz.zeroValue387
 t175:=Tryz.underlying359
 a175:=Tryz.isAgg359
 z175:=Tryz.sizeOf359
 v175:=Tryz.zeroValue359
 t210:=Tryz.underlying382
 a210:=Tryz.isAgg382
 z210:=Tryz.sizeOf382
 v210:=Tryz.zeroValue382
 t212:=Tryz.underlying405
 a212:=Tryz.isAgg405
 z212:=Tryz.sizeOf405
 v212:=Tryz.zeroValue405
 t213:=Tryz.underlying406
 a213:=Tryz.isAgg406
 z213:=Tryz.sizeOf406
 t232:=Tryz.underlying411
 a232:=Tryz.isAgg411
 z232:=Tryz.sizeOf411
 v232:=Tryz.zeroValue411
 t233:=Tryz.underlying412
 a233:=Tryz.isAgg412
 z233:=Tryz.sizeOf412
 v233:=Tryz.zeroValue412
 g15:=by kernel_rfl
 g16:=by kernel_rfl
 g17:=by kernel_rfl
 g18:=by kernel_rfl
 g19:=by kernel_rfl
 t80:=Tryz.underlying134
 a80:=Tryz.isAgg134
 z80:=Tryz.sizeOf134
 v80:=Tryz.zeroValue134
 i0:=by kernel_rfl
 i2:=by kernel_rfl
 i3:=by kernel_rfl
 i4:=by kernel_rfl
 i5:=by kernel_rfl
 i9:=by kernel_rfl
 i20:=by kernel_rfl
 i21:=by kernel_rfl
 i37:=by kernel_rfl
 i46:=by kernel_rfl
 i51:=by kernel_rfl
 i53:=by kernel_rfl
 i75:=by kernel_rfl
 i80:=by kernel_rfl
 i85:=by kernel_rfl
 i127:=by kernel_rfl
 i143:=by kernel_rfl
 i145:=by kernel_rfl
 i167:=by kernel_rfl
 i168:=by kernel_rfl
 i171:=by kernel_rfl
 i173:=by kernel_rfl
 i175:=by kernel_rfl
 i210:=by kernel_rfl
 i212:=by kernel_rfl
 i232:=by kernel_rfl
 i233:=by kernel_rfl
 m15:=by kernel_rfl
 m16:=by kernel_rfl
 m17:=by kernel_rfl
 m18:=by kernel_rfl
 m19:=by kernel_rfl
 c0:=by kernel_rfl
 c2:=by kernel_rfl
 c3:=by kernel_rfl
 c4:=by kernel_rfl
 c5:=by kernel_rfl
 c9:=by kernel_rfl
 c20:=by kernel_rfl
 c21:=by kernel_rfl
 c37:=by kernel_rfl
 c46:=by kernel_rfl
 c51:=by kernel_rfl
 c53:=by kernel_rfl
 c75:=by kernel_rfl
 c80:=by kernel_rfl
 c85:=by kernel_rfl
 c127:=by kernel_rfl
 c143:=by kernel_rfl
 c145:=by kernel_rfl
 c167:=by kernel_rfl
 c168:=by kernel_rfl
 c171:=by kernel_rfl
 c173:=by kernel_rfl
 c175:=by kernel_rfl
 c210:=by kernel_rfl
 c212:=by kernel_rfl
 c213:=by kernel_rfl
 c232:=by kernel_rfl
 c233:=by kernel_rfl}
theorem kq{a:Option Func}{x y:Func}(h:a=some x)(k:x=y):a=some y:=h.trans (xw some k)
def Tryz.laysSplit_ren:Go.Shelf.Ren:=⟨fun|146=>199|221=>252|268=>293|138=>294|143=>295|195=>328|197=>329|218=>330|219=>331|260=>365|217=>311|225=>366|224=>367|267=>368|266=>361|314=>385|n=>n,fun|31=>76|105=>355|46=>121|119=>395|139=>398|138=>397|146=>399|51=>376|n=>n,fun|1=>0|n=>n⟩
theorem Tryz.laysSplit:Go.Proofs.Lays.n146 Tryz.prog Tryz.laysSplit_ren:={
 mixed:=by kernel_rfl
 f138:=kq Tryz.func294 (by kernel_rfl)
 f143:=kq Tryz.func295 (by kernel_rfl)
 f146:=kq Tryz.func199 (by kernel_rfl)
 f195:=kq Tryz.func328 (by kernel_rfl)
 f197:=kq Tryz.func329 (by kernel_rfl)
 f217:=kq Tryz.func311 (by kernel_rfl)
 f218:=kq Tryz.func330 (by kernel_rfl)
 f219:=kq Tryz.func331 (by kernel_rfl)
 f221:=kq Tryz.func252 (by kernel_rfl)
 f224:=kq Tryz.func367 (by kernel_rfl)
 f225:=kq Tryz.func366 (by kernel_rfl)
 f260:=kq Tryz.func365 (by kernel_rfl)
 f266:=kq Tryz.func361 (by kernel_rfl)
 f267:=kq Tryz.func368 (by kernel_rfl)
 f268:=kq Tryz.func293 (by kernel_rfl)
 f314:=kq Tryz.func385 (by kernel_rfl)
 t0:=Tryz.underlying0
 a0:=Tryz.isAgg0
 z0:=Tryz.sizeOf0
 v0:=Tryz.zeroValue0
 t3:=Tryz.underlying3
 a3:=Tryz.isAgg3
 z3:=Tryz.sizeOf3
 v3:=Tryz.zeroValue3
 t4:=Tryz.underlying4
 a4:=Tryz.isAgg4
 z4:=Tryz.sizeOf4
 v4:=Tryz.zeroValue4
 t5:=Tryz.underlying5
 a5:=Tryz.isAgg5
 z5:=Tryz.sizeOf5
 v5:=Tryz.zeroValue5
 t9:=Tryz.underlying9
 a9:=Tryz.isAgg9
 z9:=Tryz.sizeOf9
 v9:=Tryz.zeroValue9
 t21:=Tryz.underlying21
 a21:=Tryz.isAgg21
 z21:=Tryz.sizeOf21
 v21:=Tryz.zeroValue21
 t31:=Tryz.underlying76
 a31:=Tryz.isAgg76
 z31:=Tryz.sizeOf76
 v31:=Tryz.zeroValue76
 t46:=Tryz.underlying121
 a46:=Tryz.isAgg121
 z46:=Tryz.sizeOf121
 v46:=Tryz.zeroValue121
 t51:=Tryz.underlying376
 a51:=Tryz.isAgg376
 z51:=Tryz.sizeOf376
 v51:=Tryz.zeroValue376
 t105:=Tryz.underlying355
 a105:=Tryz.isAgg355
 z105:=Tryz.sizeOf355
 v105:=Tryz.zeroValue355
 t119:=Tryz.underlying395
 a119:=Tryz.isAgg395
 z119:=Tryz.sizeOf395
 t138:=Tryz.underlying397
 a138:=Tryz.isAgg397
 z138:=Tryz.sizeOf397
 v138:=Tryz.zeroValue397
 t139:=Tryz.underlying398
 a139:=Tryz.isAgg398
 z139:=Tryz.sizeOf398
 v139:=Tryz.zeroValue398
 t146:=Tryz.underlying399
 a146:=Tryz.isAgg399
 z146:=Tryz.sizeOf399
 v146:=Tryz.zeroValue399
 g1:=by kernel_rfl
 g3:=by kernel_rfl
 g4:=by kernel_rfl}
namespace jC
theorem aB9{S:Nat->Prop}{w:World}(hB:Go.V.D.base.inv S w):Lib.TabIs Tryz.prog w "internal/strconv.uint64pow10" .u64 Lib.pow10Tab:=by
 obtain⟨-,-,⟨T,fr,hT⟩,-⟩:=hB;have hg:Tryz.prog.globalNamed "internal/strconv.uint64pow10" =some 5:=by kernel_rfl
 unfold Lib.TabIs World.var?;rw[hg];simp[hT]
set_option maxRecDepth 100000 in
theorem akc(n:Int)(h0: -9223372036854775808<=n)(h1:n<=9223372036854775807)(w:World)(htab:Lib.TabIs Tryz.prog w "internal/strconv.uint64pow10" .u64 Lib.pow10Tab):
 Calls Tryz.prog 254 #[.int .i64 n] w fun e w'=>e=.returned (.string ⟨(Lib.itoa n).toArray⟩)/\Below w.heap.size w w':=by
 go_enter Tryz.func254,Tryz.ntmps254
 go_wp2_with (go_at_call 298;refine(Any.strconv_FormatInt_10 Tryz.laysFI n h0 h1 _ htab).mono ?_;rintro e w' ⟨rfl,k,os,rfl⟩)
 go_ret
 exact⟨rfl,Lib.below_grow _ _ (eL _) _ _⟩
theorem tab_below{w w':World}(h:Below w.heap.size w w')(htab:Lib.TabIs Tryz.prog w "internal/strconv.uint64pow10" .u64 Lib.pow10Tab):Lib.TabIs Tryz.prog w' "internal/strconv.uint64pow10" .u64 Lib.pow10Tab:=
 Lib.tabBelow_of_tabIs htab w' h
theorem aCa{s:List UInt8}{v:Int}(h:Lib.parseIntB 64 s=.ok v): -9223372036854775808<=v/\v<=9223372036854775807:=by
 obtain⟨a,b⟩:=Lib.parseIntB_bounds h;have e:((2^(64-1):Nat):Int)=9223372036854775808:=by decide
 rw[e]at a b;omega
set_option maxRecDepth 100000 in
theorem aCb(s:List UInt8)(hl:s.length<=281474976710656)(w:World)(htab:Lib.TabIs Tryz.prog w "internal/strconv.uint64pow10" .u64 Lib.pow10Tab)
 (ts tr:TypeId) (ps pr:Value) (hS:w.cell? ⟨1,0,none⟩=some (.iface ts ps)) (hR:w.cell? ⟨2,0,none⟩=some (.iface tr pr)):
 Calls Tryz.prog 200 #[.string ⟨s.toArray⟩] w fun e w'=>e=.returned (.tuple #[.int .i64 (M.ft s).1,.bool (M.ft s).2])/\Below w.heap.size w w':=by
 have hsz:(ByteArray.mk s.toArray).size=s.length:=lY;have hd:(ByteArray.mk s.toArray).data.toList=s:=by simp
 cases hp:Lib.parseIntB 64 s with
 |ok v=>
  obtain⟨v0,v1⟩:=aCa hp;by_cases he:Lib.itoa v=s
  ·have hr:M.ft s=(v,true):=by unfold M.ft;rw[hp];simp only;rw[cz he]
   rw[hr]
   go_enter Tryz.func200,Tryz.ntmps200
   go_wp2_with (go_at_call 253;refine(Any.strconv_ParseInt_10_at64_ok Tryz.laysPI ⟨s.toArray⟩ (by omega) v (by rw[hd];exact hp) _).mono ?_;rintro e W1 ⟨rfl,hW⟩)
   have hb1:Below w.heap.size w W1:=by
    rcases hW with rfl|⟨t,rfl⟩
    ·exact Below.refl _ _
    ·exact Lib.bytesWorld_below _ _ _
   clear hW
   go_wp2_with (go_at_call 254;refine(akc v v0 v1 _ ?_).mono ?_)
   ·exact tab_below hb1 htab
   rintro e W2 ⟨rfl,hb2⟩
   have hb:Below w.heap.size w W2:=hb1.trans (hb2.mono hb1.size);rw[he]
   go_wp2
   go_ret2
   exact⟨rfl,hb⟩
  ·have hr:M.ft s=(0,false):=by unfold M.ft;rw[hp];simp only;rw[aw he]
   rw[hr]
   go_enter Tryz.func200,Tryz.ntmps200
   go_wp2_with (go_at_call 253;refine(Any.strconv_ParseInt_10_at64_ok Tryz.laysPI ⟨s.toArray⟩ (by omega) v (by rw[hd];exact hp) _).mono ?_;rintro e W1 ⟨rfl,hW⟩)
   have hb1:Below w.heap.size w W1:=by
    rcases hW with rfl|⟨t,rfl⟩
    ·exact Below.refl _ _
    ·exact Lib.bytesWorld_below _ _ _
   clear hW
   go_wp2_with (go_at_call 254;refine(akc v v0 v1 _ ?_).mono ?_)
   ·exact tab_below hb1 htab
   rintro e W2 ⟨rfl,hb2⟩
   have hb:Below w.heap.size w W2:=hb1.trans (hb2.mono hb1.size);have hne:(Lib.itoa v==s)=false:=d6.2 he
   go_wp2
   go_ret2
   exact⟨rfl,hb⟩
 |range=>
  have hr:M.ft s=(0,false):=by unfold M.ft;rw[hp]
  rw[hr]
  go_enter Tryz.func200,Tryz.ntmps200
  go_wp2_with (go_at_call 253;refine(Any.strconv_ParseInt_10_at64_range Tryz.laysPI ⟨s.toArray⟩ (by omega) (by rw[hd];exact hp) _ _ hR (Or.inr ⟨tr,pr,rfl⟩)).mono ?_;rintro e W1 ⟨N,rfl,-,-,hb⟩)
  go_wp2
  go_ret2
  exact⟨rfl,hb⟩
 |_=>
  have hr:M.ft s=(0,false):=by unfold M.ft;rw[hp]
  rw[hr]
  go_enter Tryz.func200,Tryz.ntmps200
  go_wp2_with (go_at_call 253;refine(Any.strconv_ParseInt_10_at64_syntax Tryz.laysPI ⟨s.toArray⟩ (by omega) (by rw[hd];exact hp) _ _ hS (Or.inr ⟨ts,ps,rfl⟩)).mono ?_;rintro e W1 ⟨N,rfl,-,-,hb⟩)
  go_wp2
  go_ret2
  exact⟨rfl,hb⟩
theorem akd{P:Program}{f:FuncId}{args:List (AV K)}{r:AV K}(hf:uy P f)
 (h:∀(S:Nat->Prop)(w:World)(vals:List Value),(∀b,S b->b<w.heap.size)->Go.V.D.base.inv S w->bB Go.V.D [] S w args vals->Calls P f vals.toArray w fun e w'=>∃u,e=.returned u/\Below w.heap.size w w'/\∃S':Nat->Prop,(∀b,S b->S' b)/\(∀b,S' b->S b\/(w.heap.size<=b/\b<w'.heap.size))/\Rep Go.V.D [] S' w' r u):RC Go.V.D P f args [] r []:=by
 refine⟨hf,fun ρ S w vals hs ha=>?_⟩;have hρ:ρ=[]:=by have:=hs.len;simpa using this
 subst hρ;have own:∀(w:World) b,¬Own Go.V.D w [] ([]:List (Ob K)) b:=fun w b hb=>by
  obtain⟨h,o,r,ho,_⟩:=hb;simp at ho
 refine(h S w vals hs.slt hs.base ha).mono ?_
 rintro e w' ⟨u,rfl,hb,S',h1,h2,h3⟩
 refine⟨u,[],S',rfl,⟨rfl,fun h o r ho _=>by simp at ho,fun h h' o o' r r' b ho=>by simp at ho,fun b hO=>absurd hO (own _ b),fun b hO=>?_,Go.V.D.base.mono h1 (fun b h=>hb.block b (hs.slt b h)) hs.base⟩,h3,
  ⟨hb.os,hb.tape,hb.output,hb.size,fun b hlt _=>hb.block b hlt,fun b hO=>absurd hO (own _ b),h1,fun b hO=>?_,fun h hh=>rfl⟩⟩
 ·rcases h2 b hO with h|h
  ·exact ml (hs.slt b h) hb.size
  ·exact h.2
 ·rcases h2 b hO with h|h
  ·exact .inl h
  ·exact .inr (.inr h.1)
theorem aCc{s sep:List UInt8}{r:List (List UInt8)}(h:M.strings_Split s sep=some r):sep=[46]/\s.length<4294967281/\dP.eF s=r:=by
 unfold M.strings_Split at h;by_cases h1:sep=[46]
 ·by_cases h2:s.length<4294967281
  ·rw[h1]at h;simp only[h2,bj,mA,aQ,cr]at h;exact⟨h1,h2,jl h⟩
  ·simp[h2]at h
 ·have:(sep==[46])=false:=d6.2 h1;rw[this]at h;simp at h
theorem aCd:(PS M.qZ).Ok Go.V.D Tryz.prog:=by
 intro x r hr;obtain⟨hl,hv⟩:List.length (α:=UInt8) x.1.1<=281474976710656/\M.ft x.1.1=r:=by
  change M.qZ x.1.1=some r at hr;unfold M.qZ at hr;by_cases h:List.length (α:=UInt8) x.1.1<=281474976710656
  ·simp only[h,bj,cr]at hr;exact⟨h,jl hr⟩
  ·simp[h]at hr
 subst hv;refine akd ⟨Tryz.f200,Tryz.func200,by kernel_rfl,by kernel_rfl⟩ fun S w vals hS hB ha=>?_
 obtain⟨X,rfl,hX⟩:=FC (x:=.str x.1.1) ha;rw[jj hX];obtain⟨-,-,-,⟨ts,ps,hs⟩,⟨tr,pr,hr2⟩⟩:=id hB;refine(aCb _ hl w (aB9 hB) ts tr ps pr hs hr2).mono ?_
 rintro e w' ⟨rfl,hb⟩
 exact⟨_,rfl,hb,S,fun _ h=>h,fun _ h=>.inl h,.bQ (l:=[.int .i64 _,.bool _]) (vs:=[_,_]) rfl (bB.cons (.int _ _) (.cons (.bool _) .nil)).2⟩
set_option maxRecDepth 100000 in
theorem aCe(s:List UInt8)(hl:s.length<4294967281)(m:Int)(w:World)(hm:w.cell? ⟨0,0,none⟩=some (.int .i64 m)):
 Calls Tryz.prog 199 #[.string ⟨s.toArray⟩,.string ⟨#[46]⟩] w fun e w'=>e=.returned (.slice (some ⟨w.heap.size,0,none⟩) (dP.eF s).length (dP.eF s).length)/\w'=w.alloc (.cells ((dP.eF s).map encStr).toArray 9):=by
 have h:=Any.strings_Split Tryz.laysSplit (by kernel_rfl) ⟨s.toArray⟩ ⟨#[46]⟩ m w (by show s.toArray.size<_;simpa using hl) hm (by decide);have e1:=dP.aCf ⟨s.toArray⟩ ⟨#[46]⟩ rfl;have e2:(ByteArray.mk s.toArray).data.toList=s:=by simp
 rw[e2]at e1;have e3:(Lib.splitB ⟨#[46]⟩ 0 (Lib.countB ⟨s.toArray⟩ ⟨#[46]⟩) ⟨s.toArray⟩).map Value.string=(dP.eF s).map encStr:=by
  rw[<-e1,FR];refine List.map_congr_left fun x _=>?_
  show Value.string x=encStr x.data.toList
  simp[encStr]
 have e4:Lib.countB ⟨s.toArray⟩ ⟨#[46]⟩+1=(dP.eF s).length:=by
  rw[<-e1,dC,Lib.splitB_all ⟨#[46]⟩ (by decide) 0 _ ⟨s.toArray⟩ rfl]
 rw[e3,e4]at h;exact h
theorem aCg:(PR M.strings_Split).Ok Go.V.D Tryz.prog:=by
 intro x r hr;obtain⟨hsep,hl,hv⟩:=aCc (s:=x.1.1) (sep:=x.1.2.1) hr;subst hv;refine akd ⟨Tryz.f199,Tryz.func199,by kernel_rfl,by kernel_rfl⟩ fun S w vals hS hB ha=>?_
 obtain⟨X,r1,rfl,hX,hr1⟩:=bB.gW (v:=.str x.1.1) (l:=[.str x.1.2.1]) ha;obtain⟨Y,r2,rfl,hY,hr2⟩:=hr1.gW;rw[hr2.nI,jj hX,jj hY,hsep];obtain⟨-,⟨m,hm⟩,-⟩:=id hB;refine(aCe _ hl m w hm).mono ?_
 rintro e w' ⟨rfl,rfl⟩
 generalize dP.eF x.1.1=zs;refine⟨_,rfl,(Below.refl _ w).alloc (eL _) _,fun b=>S b\/b=w.heap.size,fun _ h=>.inl h,fun b h=>h.imp id fun e=>by subst e;exact⟨eL _,by simp⟩,?_⟩;refine Rep.ah (D:=Go.V.D) (c:=U.str) (l:=zs) (fun i=>[encStr (zs[i]?.getD [])]) (Or.inr rfl) (eL _) (fun i y hy=>rfl) (fun i hi j v hv=>?_) (fun i y hy j v u hv hu=>?_)
 ·cases j with
  |zero=>
   simp at hv;subst hv;have hz:zs[i]?=some zs[i]:=bG hi;have:(w.alloc (.cells (zs.map encStr).toArray 9)).cell? ⟨w.heap.size,0+i*K.sz U.str+0,none⟩=some (encStr zs[i]):=by
    have e:0+i*K.sz U.str+0=i:=by show 0+i*1+0=i;omega
    rw[e];have hn:(w.alloc (.cells (zs.map encStr).toArray 9)).heap[w.heap.size]?=some (.cells (zs.map encStr).toArray 9 (0,0)):=xy _ _;simp only[World.cell?,hn];simp[hi]
   rw[this,hz];rfl
  |succ j=>simp at hv
 ·cases j with
  |zero=>
   simp at hu;subst hu;have:v=.str y:=by have:=hv;simp only[D,Qf,jT,uz,Sh.encs,List.getElem?_cons_zero,aD]at this;exact this.symm
   subst this;rw[hy];exact .str _
  |succ j=>simp at hu
end jC
end Go.Proofs
theorem ay9:(PS M.qZ).Ok Go.V.D Go.Proofs.Tryz.prog:=Go.Proofs.jC.aCd
theorem ay8:(PR M.strings_Split).Ok Go.V.D Go.Proofs.Tryz.prog:=Go.Proofs.jC.aCg
