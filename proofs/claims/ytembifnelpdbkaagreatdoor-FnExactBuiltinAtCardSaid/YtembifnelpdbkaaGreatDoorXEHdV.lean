/-
  The contracts of the program's decimals and of strings.Split at a dot.
-/
import Derived.Test.YtembifnelpdbkaaGreatDoorXEhand4
import Derived.Shelf.Abstract
import Derived.Shelf.Strconv.Itoa4
import Derived.Shelf.Strconv.ParseIntPublic10
import Derived.Shelf.Strings.Split
import Derived.Lib.AppendIntMem
import Derived.Lib.ParseIntBTie
import Derived.Lib.LaidTab
import Derived.Stop.IfaceNil
import Derived.WalkKit
import Derived.BigCall
import Derived.Ground.NamesProg
import Derived.Test.YtembifnelpdbkaaGreatDoorProg
set_option linter.unusedVariables false
noncomputable def aBD (m:Int->Option (List UInt8)):Go.V.bC Go.V.K:={f:=146,sh:=⟨[.int .i64],[]⟩,R:=List UInt8,run:=fun x=>m x.1.1,dflt:=default,out:=fun r=>(Go.V.Sh.enc Go.V.D (.str) r,Go.V.iY.encs Go.V.D [] ())}
noncomputable def Dl (m:List UInt8->Option (Int×Bool)):Go.V.bC Go.V.K:={f:=102,sh:=⟨[.str],[]⟩,R:=Int×Bool,run:=fun x=>m x.1.1,dflt:=default,out:=fun r=>(Go.V.Sh.enc Go.V.D (.nS [.int .i64, .bool]) (r.1,(r.2,())),Go.V.iY.encs Go.V.D [] ())}
noncomputable def Dk (m:List UInt8->List UInt8->Option (List (List UInt8))):Go.V.bC Go.V.K:={f:=101,sh:=⟨[.str, .str],[]⟩,R:=List (List UInt8),run:=fun x=>m x.1.1 x.1.2.1,dflt:=default,out:=fun r=>(Go.V.Sh.enc Go.V.D (.aZ Go.V.U.str) r,Go.V.iY.encs Go.V.D [] ())}
namespace Go.Proofs
open Go.RowKit Go.Shelf Go.V Go.Lib Go.Sort
theorem jE {a:Option Func} {x y:Func} (h:a=some x) (k:x=y):a=some y:=h.trans (congrArg some k)
def Tryz.laysFI_ren :Go.Shelf.Ren:=⟨fun |173=>182 |246=>229 |283=>291 |284=>292 |285=>293 |286=>294 |129=>260 |317=>312 |318=>313 |319=>314 |320=>315 |337=>317 |338=>318 |n=>n,fun |171=>326 |53=>273 |37=>257 |173=>328 |212=>350 |51=>305 |213=>351 |46=>252 |232=>356 |233=>357 |n=>n,fun |17=>5 |18=>6 |19=>7 |n=>n⟩
theorem Tryz.laysFI :Go.Proofs.LaysM.n173 Tryz.prog Tryz.laysFI_ren:={
 mixed:=by kernel_rfl
 f129:=jE Tryz.func260 (by kernel_rfl)
 f173:=jE Tryz.func182 (by kernel_rfl)
 f246:=jE Tryz.func229 (by kernel_rfl)
 f283:=jE Tryz.func291 (by kernel_rfl)
 f284:=jE Tryz.func292 (by kernel_rfl)
 f285:=jE Tryz.func293 (by kernel_rfl)
 f286:=jE Tryz.func294 (by kernel_rfl)
 f317:=jE Tryz.func312 (by kernel_rfl)
 f318:=jE Tryz.func313 (by kernel_rfl)
 f319:=jE Tryz.func314 (by kernel_rfl)
 f320:=jE Tryz.func315 (by kernel_rfl)
 f337:=jE Tryz.func317 (by kernel_rfl)
 f338:=jE Tryz.func318 (by kernel_rfl)
 t0:=Tryz.underlying0
 a0:=Tryz.isAgg0
 z0:=Tryz.sizeOf0
 v0:=Tryz.zeroValue0
 t2:=Tryz.underlying2
 a2:=Tryz.isAgg2
 z2:=Tryz.sizeOf2
 v2:=Tryz.zeroValue2
 t3:=Tryz.underlying3
 a3:=Tryz.isAgg3
 z3:=Tryz.sizeOf3
 v3:=Tryz.zeroValue3
 t4:=Tryz.underlying4
 a4:=Tryz.isAgg4
 z4:=Tryz.sizeOf4
 v4:=Tryz.zeroValue4
 t5:=Tryz.underlying5
 a5:=Tryz.isAgg5
 z5:=Tryz.sizeOf5
 v5:=Tryz.zeroValue5
 t9:=Tryz.underlying9
 a9:=Tryz.isAgg9
 z9:=Tryz.sizeOf9
 v9:=Tryz.zeroValue9
 t20:=Tryz.underlying20
 a20:=Tryz.isAgg20
 z20:=Tryz.sizeOf20
 v20:=Tryz.zeroValue20
 t37:=Tryz.underlying257
 a37:=Tryz.isAgg257
 z37:=Tryz.sizeOf257
 v37:=Tryz.zeroValue257
 t46:=Tryz.underlying252
 a46:=Tryz.isAgg252
 z46:=Tryz.sizeOf252
 v46:=Tryz.zeroValue252
 t51:=Tryz.underlying305
 a51:=Tryz.isAgg305
 z51:=Tryz.sizeOf305
 v51:=Tryz.zeroValue305
 t53:=Tryz.underlying273
 a53:=Tryz.isAgg273
 z53:=Tryz.sizeOf273
 v53:=Tryz.zeroValue273
 t171:=Tryz.underlying326
 a171:=Tryz.isAgg326
 z171:=Tryz.sizeOf326
 v171:=Tryz.zeroValue326
 t173:=Tryz.underlying328
 a173:=Tryz.isAgg328
 z173:=Tryz.sizeOf328
 v173:=Tryz.zeroValue328
 t212:=Tryz.underlying350
 a212:=Tryz.isAgg350
 z212:=Tryz.sizeOf350
 v212:=Tryz.zeroValue350
 t213:=Tryz.underlying351
 a213:=Tryz.isAgg351
 z213:=Tryz.sizeOf351
 t232:=Tryz.underlying356
 a232:=Tryz.isAgg356
 z232:=Tryz.sizeOf356
 v232:=Tryz.zeroValue356
 t233:=Tryz.underlying357
 a233:=Tryz.isAgg357
 z233:=Tryz.sizeOf357
 v233:=Tryz.zeroValue357
 g17:=by kernel_rfl
 g18:=by kernel_rfl
 g19:=by kernel_rfl
 i0:=by kernel_rfl
 i2:=by kernel_rfl
 i3:=by kernel_rfl
 i4:=by kernel_rfl
 i5:=by kernel_rfl
 i9:=by kernel_rfl
 i20:=by kernel_rfl
 i37:=by kernel_rfl
 i46:=by kernel_rfl
 i51:=by kernel_rfl
 i53:=by kernel_rfl
 i171:=by kernel_rfl
 i173:=by kernel_rfl
 i212:=by kernel_rfl
 i232:=by kernel_rfl
 i233:=by kernel_rfl
 m17:=by kernel_rfl
 m18:=by kernel_rfl
 m19:=by kernel_rfl}
theorem dQ {a:Option Func} {x y:Func} (h:a=some x) (k:x=y):a=some y:=h.trans (congrArg some k)
def Tryz.laysPI_ren :Go.Shelf.Ren:=⟨fun |174=>145 |247=>180 |245=>181 |287=>224 |279=>225 |280=>226 |281=>227 |282=>228 |321=>286 |322=>287 |316=>288 |171=>290 |205=>289 |243=>311 |246=>229 |283=>291 |284=>292 |285=>293 |286=>294 |129=>260 |317=>312 |318=>313 |319=>314 |320=>315 |337=>317 |338=>318 |n=>n,fun |75=>200 |85=>201 |167=>272 |53=>273 |175=>274 |46=>252 |168=>276 |37=>257 |210=>323 |127=>345 |145=>348 |143=>346 |171=>326 |173=>328 |212=>350 |51=>305 |213=>351 |232=>356 |233=>357 |80=>358 |n=>n,fun |15=>1 |16=>2 |17=>5 |18=>6 |19=>7 |n=>n⟩
theorem Tryz.laysPI :Go.Proofs.LaysC.n174 Tryz.prog Tryz.laysPI_ren:={
 mixed:=by kernel_rfl
 f129:=dQ Tryz.func260 (by kernel_rfl)
 f171:=dQ Tryz.func290 (by kernel_rfl)
 f174:=dQ Tryz.func145 (by kernel_rfl)
 f205:=dQ Tryz.func289 (by kernel_rfl)
 f243:=dQ Tryz.func311 (by kernel_rfl)
 f245:=dQ Tryz.func181 (by kernel_rfl)
 f246:=dQ Tryz.func229 (by kernel_rfl)
 f247:=dQ Tryz.func180 (by kernel_rfl)
 f279:=dQ Tryz.func225 (by kernel_rfl)
 f280:=dQ Tryz.func226 (by kernel_rfl)
 f281:=dQ Tryz.func227 (by kernel_rfl)
 f282:=dQ Tryz.func228 (by kernel_rfl)
 f283:=dQ Tryz.func291 (by kernel_rfl)
 f284:=dQ Tryz.func292 (by kernel_rfl)
 f285:=dQ Tryz.func293 (by kernel_rfl)
 f286:=dQ Tryz.func294 (by kernel_rfl)
 f287:=dQ Tryz.func224 (by kernel_rfl)
 f316:=dQ Tryz.func288 (by kernel_rfl)
 f317:=dQ Tryz.func312 (by kernel_rfl)
 f318:=dQ Tryz.func313 (by kernel_rfl)
 f319:=dQ Tryz.func314 (by kernel_rfl)
 f320:=dQ Tryz.func315 (by kernel_rfl)
 f321:=dQ Tryz.func286 (by kernel_rfl)
 f322:=dQ Tryz.func287 (by kernel_rfl)
 f337:=dQ Tryz.func317 (by kernel_rfl)
 f338:=dQ Tryz.func318 (by kernel_rfl)
 t0:=Tryz.underlying0
 a0:=Tryz.isAgg0
 z0:=Tryz.sizeOf0
 v0:=Tryz.zeroValue0
 t2:=Tryz.underlying2
 a2:=Tryz.isAgg2
 z2:=Tryz.sizeOf2
 v2:=Tryz.zeroValue2
 t3:=Tryz.underlying3
 a3:=Tryz.isAgg3
 z3:=Tryz.sizeOf3
 v3:=Tryz.zeroValue3
 t4:=Tryz.underlying4
 a4:=Tryz.isAgg4
 z4:=Tryz.sizeOf4
 v4:=Tryz.zeroValue4
 t5:=Tryz.underlying5
 a5:=Tryz.isAgg5
 z5:=Tryz.sizeOf5
 v5:=Tryz.zeroValue5
 t9:=Tryz.underlying9
 a9:=Tryz.isAgg9
 z9:=Tryz.sizeOf9
 v9:=Tryz.zeroValue9
 t20:=Tryz.underlying20
 a20:=Tryz.isAgg20
 z20:=Tryz.sizeOf20
 v20:=Tryz.zeroValue20
 t21:=Tryz.underlying21
 a21:=Tryz.isAgg21
 z21:=Tryz.sizeOf21
 v21:=Tryz.zeroValue21
 t37:=Tryz.underlying257
 a37:=Tryz.isAgg257
 z37:=Tryz.sizeOf257
 v37:=Tryz.zeroValue257
 t46:=Tryz.underlying252
 a46:=Tryz.isAgg252
 z46:=Tryz.sizeOf252
 v46:=Tryz.zeroValue252
 t51:=Tryz.underlying305
 a51:=Tryz.isAgg305
 z51:=Tryz.sizeOf305
 v51:=Tryz.zeroValue305
 t53:=Tryz.underlying273
 a53:=Tryz.isAgg273
 z53:=Tryz.sizeOf273
 v53:=Tryz.zeroValue273
 t75:=Tryz.underlying200
 a75:=Tryz.isAgg200
 z75:=Tryz.sizeOf200
 v75:=Tryz.zeroValue200
 t85:=Tryz.underlying201
 a85:=Tryz.isAgg201
 z85:=Tryz.sizeOf201
 v85:=Tryz.zeroValue201
 t127:=Tryz.underlying345
 a127:=Tryz.isAgg345
 z127:=Tryz.sizeOf345
 v127:=Tryz.zeroValue345
 t143:=Tryz.underlying346
 a143:=Tryz.isAgg346
 z143:=Tryz.sizeOf346
 v143:=Tryz.zeroValue346
 t145:=Tryz.underlying348
 a145:=Tryz.isAgg348
 z145:=Tryz.sizeOf348
 v145:=Tryz.zeroValue348
 t167:=Tryz.underlying272
 a167:=Tryz.isAgg272
 z167:=Tryz.sizeOf272
 v167:=Tryz.zeroValue272
 t168:=Tryz.underlying276
 a168:=Tryz.isAgg276
 z168:=Tryz.sizeOf276
 v168:=Tryz.zeroValue276
 t171:=Tryz.underlying326
 a171:=Tryz.isAgg326
 z171:=Tryz.sizeOf326
 v171:=Tryz.zeroValue326
 t173:=Tryz.underlying328
 a173:=Tryz.isAgg328
 z173:=Tryz.sizeOf328
 v173:=Tryz.zeroValue328
 t175:=Tryz.underlying274
 a175:=Tryz.isAgg274
 z175:=Tryz.sizeOf274
 v175:=Tryz.zeroValue274
 t210:=Tryz.underlying323
 a210:=Tryz.isAgg323
 z210:=Tryz.sizeOf323
 v210:=Tryz.zeroValue323
 t212:=Tryz.underlying350
 a212:=Tryz.isAgg350
 z212:=Tryz.sizeOf350
 v212:=Tryz.zeroValue350
 t213:=Tryz.underlying351
 a213:=Tryz.isAgg351
 z213:=Tryz.sizeOf351
 t232:=Tryz.underlying356
 a232:=Tryz.isAgg356
 z232:=Tryz.sizeOf356
 v232:=Tryz.zeroValue356
 t233:=Tryz.underlying357
 a233:=Tryz.isAgg357
 z233:=Tryz.sizeOf357
 v233:=Tryz.zeroValue357
 g15:=by kernel_rfl
 g16:=by kernel_rfl
 g17:=by kernel_rfl
 g18:=by kernel_rfl
 g19:=by kernel_rfl
 t80:=Tryz.underlying358
 a80:=Tryz.isAgg358
 z80:=Tryz.sizeOf358
 v80:=Tryz.zeroValue358
 i0:=by kernel_rfl
 i2:=by kernel_rfl
 i3:=by kernel_rfl
 i4:=by kernel_rfl
 i5:=by kernel_rfl
 i9:=by kernel_rfl
 i20:=by kernel_rfl
 i21:=by kernel_rfl
 i37:=by kernel_rfl
 i46:=by kernel_rfl
 i51:=by kernel_rfl
 i53:=by kernel_rfl
 i75:=by kernel_rfl
 i80:=by kernel_rfl
 i85:=by kernel_rfl
 i127:=by kernel_rfl
 i143:=by kernel_rfl
 i145:=by kernel_rfl
 i167:=by kernel_rfl
 i168:=by kernel_rfl
 i171:=by kernel_rfl
 i173:=by kernel_rfl
 i175:=by kernel_rfl
 i210:=by kernel_rfl
 i212:=by kernel_rfl
 i232:=by kernel_rfl
 i233:=by kernel_rfl
 m15:=by kernel_rfl
 m16:=by kernel_rfl
 m17:=by kernel_rfl
 m18:=by kernel_rfl
 m19:=by kernel_rfl
 c0:=by kernel_rfl
 c2:=by kernel_rfl
 c3:=by kernel_rfl
 c4:=by kernel_rfl
 c5:=by kernel_rfl
 c9:=by kernel_rfl
 c20:=by kernel_rfl
 c21:=by kernel_rfl
 c37:=by kernel_rfl
 c46:=by kernel_rfl
 c51:=by kernel_rfl
 c53:=by kernel_rfl
 c75:=by kernel_rfl
 c80:=by kernel_rfl
 c85:=by kernel_rfl
 c127:=by kernel_rfl
 c143:=by kernel_rfl
 c145:=by kernel_rfl
 c167:=by kernel_rfl
 c168:=by kernel_rfl
 c171:=by kernel_rfl
 c173:=by kernel_rfl
 c175:=by kernel_rfl
 c210:=by kernel_rfl
 c212:=by kernel_rfl
 c213:=by kernel_rfl
 c232:=by kernel_rfl
 c233:=by kernel_rfl}
theorem fJ {a:Option Func} {x y:Func} (h:a=some x) (k:x=y):a=some y:=h.trans (congrArg some k)
def Tryz.laysSplit_ren :Go.Shelf.Ren:=⟨fun |146=>101 |221=>144 |268=>177 |138=>178 |143=>179 |195=>220 |197=>221 |218=>222 |219=>223 |260=>281 |217=>282 |225=>283 |224=>284 |267=>285 |266=>309 |314=>310 |n=>n,fun |31=>78 |105=>269 |46=>252 |119=>339 |139=>342 |138=>341 |146=>343 |51=>305 |n=>n,fun |1=>0 |n=>n⟩
theorem Tryz.laysSplit :Go.Proofs.Lays.n146 Tryz.prog Tryz.laysSplit_ren:={
 mixed:=by kernel_rfl
 f138:=fJ Tryz.func178 (by kernel_rfl)
 f143:=fJ Tryz.func179 (by kernel_rfl)
 f146:=fJ Tryz.func101 (by kernel_rfl)
 f195:=fJ Tryz.func220 (by kernel_rfl)
 f197:=fJ Tryz.func221 (by kernel_rfl)
 f217:=fJ Tryz.func282 (by kernel_rfl)
 f218:=fJ Tryz.func222 (by kernel_rfl)
 f219:=fJ Tryz.func223 (by kernel_rfl)
 f221:=fJ Tryz.func144 (by kernel_rfl)
 f224:=fJ Tryz.func284 (by kernel_rfl)
 f225:=fJ Tryz.func283 (by kernel_rfl)
 f260:=fJ Tryz.func281 (by kernel_rfl)
 f266:=fJ Tryz.func309 (by kernel_rfl)
 f267:=fJ Tryz.func285 (by kernel_rfl)
 f268:=fJ Tryz.func177 (by kernel_rfl)
 f314:=fJ Tryz.func310 (by kernel_rfl)
 t0:=Tryz.underlying0
 a0:=Tryz.isAgg0
 z0:=Tryz.sizeOf0
 v0:=Tryz.zeroValue0
 t3:=Tryz.underlying3
 a3:=Tryz.isAgg3
 z3:=Tryz.sizeOf3
 v3:=Tryz.zeroValue3
 t4:=Tryz.underlying4
 a4:=Tryz.isAgg4
 z4:=Tryz.sizeOf4
 v4:=Tryz.zeroValue4
 t5:=Tryz.underlying5
 a5:=Tryz.isAgg5
 z5:=Tryz.sizeOf5
 v5:=Tryz.zeroValue5
 t9:=Tryz.underlying9
 a9:=Tryz.isAgg9
 z9:=Tryz.sizeOf9
 v9:=Tryz.zeroValue9
 t21:=Tryz.underlying21
 a21:=Tryz.isAgg21
 z21:=Tryz.sizeOf21
 v21:=Tryz.zeroValue21
 t31:=Tryz.underlying78
 a31:=Tryz.isAgg78
 z31:=Tryz.sizeOf78
 v31:=Tryz.zeroValue78
 t46:=Tryz.underlying252
 a46:=Tryz.isAgg252
 z46:=Tryz.sizeOf252
 v46:=Tryz.zeroValue252
 t51:=Tryz.underlying305
 a51:=Tryz.isAgg305
 z51:=Tryz.sizeOf305
 v51:=Tryz.zeroValue305
 t105:=Tryz.underlying269
 a105:=Tryz.isAgg269
 z105:=Tryz.sizeOf269
 v105:=Tryz.zeroValue269
 t119:=Tryz.underlying339
 a119:=Tryz.isAgg339
 z119:=Tryz.sizeOf339
 t138:=Tryz.underlying341
 a138:=Tryz.isAgg341
 z138:=Tryz.sizeOf341
 v138:=Tryz.zeroValue341
 t139:=Tryz.underlying342
 a139:=Tryz.isAgg342
 z139:=Tryz.sizeOf342
 v139:=Tryz.zeroValue342
 t146:=Tryz.underlying343
 a146:=Tryz.isAgg343
 z146:=Tryz.sizeOf343
 v146:=Tryz.zeroValue343
 g1:=by kernel_rfl
 g3:=by kernel_rfl
 g4:=by kernel_rfl}
namespace Ot
theorem aDg {S:Nat->Prop} {w:World} (hB:Go.V.D.base.inv S w):Lib.TabIs Tryz.prog w "internal/strconv.uint64pow10" .u64 Lib.pow10Tab:=by
 obtain ⟨-, -,⟨T,fr,hT⟩, -⟩:=hB;have hg:Tryz.prog.globalNamed "internal/strconv.uint64pow10" =some 5:=by kernel_rfl
 unfold Lib.TabIs World.var?;rw[hg];simp[hT]
set_option maxRecDepth 100000 in
theorem acC (n:Int) (h0: -9223372036854775808<=n) (h1:n<=9223372036854775807) (w:World) (htab:Lib.TabIs Tryz.prog w "internal/strconv.uint64pow10" .u64 Lib.pow10Tab):
 Calls Tryz.prog 146 #[.int .i64 n] w fun e w'=>e= .returned (.string ⟨(Lib.itoa n).toArray⟩) /\ Below w.heap.size w w':=by
 go_enter Tryz.func146,Tryz.ntmps146
 go_wp2_with (go_at_call 182;refine (Any.strconv_FormatInt_10 Tryz.laysFI n h0 h1 _ htab).mono ?_;rintro e w' ⟨rfl,k,os,rfl⟩)
 go_ret
 exact ⟨rfl,Lib.below_grow _ _ (Nat.le_refl _) _ _⟩
theorem tab_below {w w':World} (h:Below w.heap.size w w') (htab:Lib.TabIs Tryz.prog w "internal/strconv.uint64pow10" .u64 Lib.pow10Tab):Lib.TabIs Tryz.prog w' "internal/strconv.uint64pow10" .u64 Lib.pow10Tab:=
 Lib.tabBelow_of_tabIs htab w' h
theorem avk {s:List UInt8} {v:Int} (h:Lib.parseIntB 64 s= .ok v): -9223372036854775808<=v /\ v<=9223372036854775807:=by
 obtain ⟨a,b⟩:=Lib.parseIntB_bounds h;have e:((2^(64-1):Nat):Int)=9223372036854775808:=by decide
 rw[e] at a b;omega
set_option maxRecDepth 100000 in
theorem agw (s:List UInt8) (hl:s.length<=281474976710656) (w:World) (htab:Lib.TabIs Tryz.prog w "internal/strconv.uint64pow10" .u64 Lib.pow10Tab)
 (ts tr:TypeId) (ps pr:Value) (hS:w.cell? ⟨1,0,none⟩=some (.iface ts ps)) (hR:w.cell? ⟨2,0,none⟩=some (.iface tr pr)):
 Calls Tryz.prog 102 #[.string ⟨s.toArray⟩] w fun e w'=>e= .returned (.tuple #[.int .i64 (M.iP s).1, .bool (M.iP s).2]) /\ Below w.heap.size w w':=by
 have hsz:(ByteArray.mk s.toArray).size=s.length:=List.size_toArray;have hd:(ByteArray.mk s.toArray).data.toList=s:=by simp
 cases hp:Lib.parseIntB 64 s with
 |ok v=>
  obtain ⟨v0,v1⟩:=avk hp
  by_cases he:Lib.itoa v=s
  ·have hr:M.iP s=(v,true):=by unfold M.iP;rw[hp];simp only;rw[if_pos he]
   rw[hr]
   go_enter Tryz.func102,Tryz.ntmps102
   go_wp2_with (go_at_call 145;refine (Any.strconv_ParseInt_10_at64_ok Tryz.laysPI ⟨s.toArray⟩ (by omega) v (by rw[hd];exact hp) _).mono ?_;rintro e W1 ⟨rfl,hW⟩)
   have hb1:Below w.heap.size w W1:=by
    rcases hW with rfl |⟨t,rfl⟩
    ·exact Below.refl _ _
    ·exact Lib.bytesWorld_below _ _ _
   clear hW
   go_wp2_with (go_at_call 146;refine (acC v v0 v1 _ ?_).mono ?_)
   ·exact tab_below hb1 htab
   rintro e W2 ⟨rfl,hb2⟩
   have hb:Below w.heap.size w W2:=hb1.trans (hb2.mono hb1.size);rw[he]
   go_wp2
   go_ret2
   exact ⟨rfl,hb⟩
  ·have hr:M.iP s=(0,false):=by unfold M.iP;rw[hp];simp only;rw[if_neg he]
   rw[hr]
   go_enter Tryz.func102,Tryz.ntmps102
   go_wp2_with (go_at_call 145;refine (Any.strconv_ParseInt_10_at64_ok Tryz.laysPI ⟨s.toArray⟩ (by omega) v (by rw[hd];exact hp) _).mono ?_;rintro e W1 ⟨rfl,hW⟩)
   have hb1:Below w.heap.size w W1:=by
    rcases hW with rfl |⟨t,rfl⟩
    ·exact Below.refl _ _
    ·exact Lib.bytesWorld_below _ _ _
   clear hW
   go_wp2_with (go_at_call 146;refine (acC v v0 v1 _ ?_).mono ?_)
   ·exact tab_below hb1 htab
   rintro e W2 ⟨rfl,hb2⟩
   have hb:Below w.heap.size w W2:=hb1.trans (hb2.mono hb1.size);have hne:(Lib.itoa v==s)=false:=beq_eq_false_iff_ne.2 he
   go_wp2
   go_ret2
   exact ⟨rfl,hb⟩
 |range=>
  have hr:M.iP s=(0,false):=by unfold M.iP;rw[hp]
  rw[hr]
  go_enter Tryz.func102,Tryz.ntmps102
  go_wp2_with (go_at_call 145;refine (Any.strconv_ParseInt_10_at64_range Tryz.laysPI ⟨s.toArray⟩ (by omega) (by rw[hd];exact hp) _ _ hR (Or.inr ⟨tr,pr,rfl⟩)).mono ?_;rintro e W1 ⟨N,rfl, -, -,hb⟩)
  go_wp2
  go_ret2
  exact ⟨rfl,hb⟩
 |_=>
  have hr:M.iP s=(0,false):=by unfold M.iP;rw[hp]
  rw[hr]
  go_enter Tryz.func102,Tryz.ntmps102
  go_wp2_with (go_at_call 145;refine (Any.strconv_ParseInt_10_at64_syntax Tryz.laysPI ⟨s.toArray⟩ (by omega) (by rw[hd];exact hp) _ _ hS (Or.inr ⟨ts,ps,rfl⟩)).mono ?_;rintro e W1 ⟨N,rfl, -, -,hb⟩)
  go_wp2
  go_ret2
  exact ⟨rfl,hb⟩
theorem arT {P:Program} {f:FuncId} {args:List (AV K)} {r:AV K} (hf:avl P f)
 (h:∀(S:Nat->Prop) (w:World) (vals:List Value),(∀b,S b->b<w.heap.size)->Go.V.D.base.inv S w->dM Go.V.D [] S w args vals->Calls P f vals.toArray w fun e w'=>∃u,e= .returned u /\ Below w.heap.size w w' /\ ∃S':Nat->Prop,(∀b,S b->S' b) /\ (∀b,S' b->S b \/ (w.heap.size<=b /\ b<w'.heap.size)) /\ Rep Go.V.D [] S' w' r u):RC Go.V.D P f args [] r []:=by
 refine ⟨hf,fun ρ S w vals hs ha=> ?_⟩
 have hρ:ρ=[]:=by have:=hs.len;simpa using this
 subst hρ;have own:∀(w:World) b,¬Own Go.V.D w [] ([]:List (Ob K)) b:=fun w b hb=>by
  obtain ⟨h,o,r,ho,_⟩:=hb;simp at ho
 refine (h S w vals hs.slt hs.base ha).mono ?_
 rintro e w' ⟨u,rfl,hb,S',h1,h2,h3⟩
 refine ⟨u,[],S',rfl,⟨rfl,fun h o r ho _=>by simp at ho,fun h h' o o' r r' b ho=>by simp at ho,fun b hO=>absurd hO (own _ b),fun b hO=> ?_,Go.V.D.base.mono h1 (fun b h=>hb.block b (hs.slt b h)) hs.base⟩,h3,
  ⟨hb.os,hb.tape,hb.output,hb.size,fun b hlt _=>hb.block b hlt,fun b hO=>absurd hO (own _ b),h1,fun b hO=> ?_,fun h hh=>rfl⟩⟩
 ·rcases h2 b hO with h |h
  ·exact Nat.lt_of_lt_of_le (hs.slt b h) hb.size
  ·exact h.2
 ·rcases h2 b hO with h |h
  ·exact .inl h
  ·exact .inr (.inr h.1)
theorem avm {s sep:List UInt8} {r:List (List UInt8)} (h:M.strings_Split s sep=some r):sep=[46] /\ s.length<4294967281 /\ O3.fH s=r:=by
 unfold M.strings_Split at h
 by_cases h1:sep=[46]
 ·by_cases h2:s.length<4294967281
  ·rw[h1] at h;simp only[h2,decide_true,beq_self_eq_true,Bool.and_true,cond_true] at h;exact ⟨h1,h2,Option.some.inj h⟩
  ·simp[h2] at h
 ·have:(sep==[46])=false:=beq_eq_false_iff_ne.2 h1
  rw[this] at h;simp at h
theorem aoM : (Dl M.mD).Ok Go.V.D Tryz.prog:=by
 intro x r hr;obtain ⟨hl,hv⟩:List.length (α:=UInt8) x.1.1<=281474976710656 /\ M.iP x.1.1=r:=by
  change M.mD x.1.1=some r at hr;unfold M.mD at hr
  by_cases h:List.length (α:=UInt8) x.1.1<=281474976710656
  ·simp only[h,decide_true,cond_true] at hr;exact ⟨h,Option.some.inj hr⟩
  ·simp[h] at hr
 subst hv;refine arT ⟨Tryz.f102,Tryz.func102,by kernel_rfl,by kernel_rfl⟩ fun S w vals hS hB ha=> ?_
 obtain ⟨X,rfl,hX⟩:=Y2 (x:= .str x.1.1) ha;rw[oU hX];obtain ⟨-, -, -,⟨ts,ps,hs⟩,⟨tr,pr,hr2⟩⟩:=id hB;refine (agw _ hl w (aDg hB) ts tr ps pr hs hr2).mono ?_
 rintro e w' ⟨rfl,hb⟩
 exact ⟨_,rfl,hb,S,fun _ h=>h,fun _ h=> .inl h, .nS (l:=[.int .i64 _, .bool _]) (vs:=[_,_]) rfl (dM.cons (.int _ _) (.cons (.bool _) .nil)).2⟩
set_option maxRecDepth 100000 in
theorem avn (s:List UInt8) (hl:s.length<4294967281) (m:Int) (w:World) (hm:w.cell? ⟨0,0,none⟩=some (.int .i64 m)):
 Calls Tryz.prog 101 #[.string ⟨s.toArray⟩, .string ⟨#[46]⟩] w fun e w'=>e= .returned (.slice (some ⟨w.heap.size,0,none⟩) (O3.fH s).length (O3.fH s).length) /\ w'=w.alloc (.cells ((O3.fH s).map encStr).toArray 9):=by
 have h:=Any.strings_Split Tryz.laysSplit (by kernel_rfl) ⟨s.toArray⟩ ⟨#[46]⟩ m w (by show s.toArray.size<_;simpa using hl) hm (by decide)
 have e1:=O3.awV ⟨s.toArray⟩ ⟨#[46]⟩ rfl;have e2:(ByteArray.mk s.toArray).data.toList=s:=by simp
 rw[e2] at e1;have e3:(Lib.splitB ⟨#[46]⟩ 0 (Lib.countB ⟨s.toArray⟩ ⟨#[46]⟩) ⟨s.toArray⟩).map Value.string=(O3.fH s).map encStr:=by
  rw[<-e1,List.map_map];refine List.map_congr_left fun x _=> ?_
  show Value.string x=encStr x.data.toList
  simp[encStr]
 have e4:Lib.countB ⟨s.toArray⟩ ⟨#[46]⟩+1=(O3.fH s).length:=by
  rw[<-e1,List.length_map,Lib.splitB_all ⟨#[46]⟩ (by decide) 0 _ ⟨s.toArray⟩ rfl]
 rw[e3,e4] at h;exact h
theorem aAl : (Dk M.strings_Split).Ok Go.V.D Tryz.prog:=by
 intro x r hr;obtain ⟨hsep,hl,hv⟩:=avm (s:=x.1.1) (sep:=x.1.2.1) hr;subst hv;refine arT ⟨Tryz.f101,Tryz.func101,by kernel_rfl,by kernel_rfl⟩ fun S w vals hS hB ha=> ?_
 obtain ⟨X,r1,rfl,hX,hr1⟩:=dM.uo (v:= .str x.1.1) (l:=[.str x.1.2.1]) ha;obtain ⟨Y,r2,rfl,hY,hr2⟩:=hr1.uo;rw[hr2.F9,oU hX,oU hY,hsep];obtain ⟨-,⟨m,hm⟩, -⟩:=id hB;refine (avn _ hl m w hm).mono ?_
 rintro e w' ⟨rfl,rfl⟩
 generalize O3.fH x.1.1=zs
 refine ⟨_,rfl,(Below.refl _ w).alloc (Nat.le_refl _) _,fun b=>S b \/ b=w.heap.size,fun _ h=> .inl h,fun b h=>h.imp id fun e=>by subst e;exact ⟨Nat.le_refl _,by simp⟩, ?_⟩
 refine Rep.aZ (D:=Go.V.D) (c:=U.str) (l:=zs) (fun i=>[encStr (zs[i]?.getD [])]) (Or.inr rfl) (Nat.le_refl _) (fun i y hy=>rfl) (fun i hi j v hv=> ?_) (fun i y hy j v u hv hu=> ?_)
 ·cases j with
  |zero=>
   simp at hv;subst hv;have hz:zs[i]? =some zs[i]:=List.getElem?_eq_getElem hi;have:(w.alloc (.cells (zs.map encStr).toArray 9)).cell? ⟨w.heap.size,0+i*K.sz U.str+0,none⟩=some (encStr zs[i]):=by
    have e:0+i*K.sz U.str+0=i:=by show 0+i*1+0=i;omega
    rw[e];have hn:(w.alloc (.cells (zs.map encStr).toArray 9)).heap[w.heap.size]? =some (.cells (zs.map encStr).toArray 9 (0,0)):=uu _ _;simp only[World.cell?,hn];simp[hi]
   rw[this,hz];rfl
  |succ j=>simp at hv
 ·cases j with
  |zero=>
   simp at hu;subst hu;have:v= .str y:=by have:=hv;simp only[D,aAm,Ucs,Uun,Sh.encs,List.getElem?_cons_zero,Option.some.injEq] at this;exact this.symm
   subst this;rw[hy];exact .str _
  |succ j=>simp at hu
end Ot
end Go.Proofs
theorem ahl : (Dl M.mD).Ok Go.V.D Go.Proofs.Tryz.prog:=Go.Proofs.Ot.aoM
theorem ahk : (Dk M.strings_Split).Ok Go.V.D Go.Proofs.Tryz.prog:=Go.Proofs.Ot.aAl
