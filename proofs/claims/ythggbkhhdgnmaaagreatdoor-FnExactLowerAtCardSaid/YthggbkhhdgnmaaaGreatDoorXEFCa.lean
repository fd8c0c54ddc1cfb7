/-
  Part of the proof of the claim.
-/
import Derived.Test.YthggbkhhdgnmaaaGreatDoorXEFM
import Derived.Test.YthggbkhhdgnmaaaGreatDoorXEHdA
import Derived.Test.YthggbkhhdgnmaaaGreatDoorXEHdB
import Derived.Test.YthggbkhhdgnmaaaGreatDoorXEHdV
import Derived.Test.YthggbkhhdgnmaaaGreatDoorProg
set_option linter.unusedVariables false
set_option maxRecDepth 100000
open Go Go.Proofs
open Go.V
noncomputable section
abbrev zs0:Go.V.aN Go.V.K:=⟨[.bool],[]⟩
abbrev zs1:Go.V.aN Go.V.K:=⟨[.int .i64],[]⟩
abbrev zs2:Go.V.aN Go.V.K:=⟨[.any],[]⟩
abbrev zs3:Go.V.aN Go.V.K:=⟨[.any,.int .i64],[]⟩
abbrev zs4:Go.V.aN Go.V.K:=⟨[.int .i64,.any],[]⟩
abbrev xY:Go.V.aN Go.V.K:=⟨[.any],[.dead]⟩
abbrev ib:Go.V.aN Go.V.K:=⟨[.str],[]⟩
abbrev IF:Go.V.aN Go.V.K:=⟨[.bool],[.dead]⟩
abbrev iv:Go.V.aN Go.V.K:=⟨[.el U.Type],[]⟩
abbrev lF:Go.V.aN Go.V.K:=⟨[.ah U.Type],[]⟩
abbrev lC:Go.V.aN Go.V.K:=⟨[.el U.eK],[]⟩
abbrev GV:Go.V.aN Go.V.K:=⟨[.own 1],[.dead,.arr U.i64]⟩
abbrev pZ:Go.V.aN Go.V.K:=⟨[.el U.Module],[]⟩
abbrev pS:Go.V.aN Go.V.K:=⟨[.ah U.str],[]⟩
abbrev GO:Go.V.aN Go.V.K:=⟨[.any,.bool],[]⟩
abbrev rT:Go.V.aN Go.V.K:=⟨[.ah U.i64],[]⟩
abbrev xC:Go.V.aN Go.V.K:=⟨[.any,.any,.bool],[]⟩
abbrev rX:Go.V.aN Go.V.K:=⟨[.rp U.eL 0,.int .i64,.int .i64,.int .i64],[]⟩
abbrev rY:Go.V.aN Go.V.K:=⟨[.rp U.eL 0,.int .i64,.int .i64],[]⟩
abbrev sc:Go.V.aN Go.V.K:=⟨[.el U.eL],[]⟩
abbrev ach:Go.V.aN Go.V.K:=⟨[.str,.any],[]⟩
abbrev yt:Go.V.aN Go.V.K:=⟨[.ah U.str,.int .i64,.int .i64],[]⟩
abbrev xG:Go.V.aN Go.V.K:=⟨[.ah U.str,.int .i64],[]⟩
abbrev xU:Go.V.aN Go.V.K:=⟨[.any,.bool],[.dead]⟩
abbrev xH:Go.V.aN Go.V.K:=⟨[.any,.any,.bool],[.dead,.dead]⟩
abbrev Tn:Go.V.aN Go.V.K:=⟨[.own 1],[.dead,.arr U.str]⟩
abbrev xW:Go.V.aN Go.V.K:=⟨[.ptr 0 0,.int .i64],[.el U.Module]⟩
abbrev VV:Go.V.aN Go.V.K:=⟨[.int .i64],[.dead]⟩
abbrev Bc:Go.V.aN Go.V.K:=⟨[.el U.Ins],[]⟩
abbrev Bd:Go.V.aN Go.V.K:=⟨[.el U.Core],[]⟩
abbrev CS:Go.V.aN Go.V.K:=⟨[.el U.Type,.int .i64],[]⟩
abbrev Aw:Go.V.aN Go.V.K:=⟨[.el U.aQ],[]⟩
abbrev AA:Go.V.aN Go.V.K:=⟨[.bT [.int .i64,.bool]],[]⟩
abbrev Bv:Go.V.aN Go.V.K:=⟨[.rp U.eL 0],[]⟩
abbrev IG:Go.V.aN Go.V.K:=⟨[.str,.int .i64],[]⟩
abbrev aci:Go.V.aN Go.V.K:=⟨[.any,.any,.any,.own 5,.int .i64,.int .i64],[.dead,.dead,.dead,.dead,.dead,.arr U.CodeBlock]⟩
abbrev acj:Go.V.aN Go.V.K:=⟨[.ptr 0 0,.own 3,.own 4,.any,.any,.any],[.el U.Core,.dead,.dead,.arr U.CodeBlock,.arr U.i64]⟩
abbrev IA:Go.V.aN Go.V.K:=⟨[.ah U.Type,.int .i64,.int .i64],[]⟩
abbrev GQ:Go.V.aN Go.V.K:=⟨[.ah U.Type,.int .i64],[]⟩
abbrev IH:Go.V.aN Go.V.K:=⟨[.ah U.str,.ah U.str,.int .i64],[]⟩
abbrev II:Go.V.aN Go.V.K:=⟨[.ptr 0 0,.int .i64],[.el U.Type]⟩
abbrev Hr:Go.V.aN Go.V.K:=⟨[.str,.int .i64,.int .i64],[]⟩
abbrev ID:Go.V.aN Go.V.K:=⟨[.ah U.Param,.int .i64,.int .i64],[]⟩
abbrev FI:Go.V.aN Go.V.K:=⟨[.ah U.aQ,.int .i64,.int .i64],[]⟩
abbrev IJ:Go.V.aN Go.V.K:=⟨[.ptr 0 0,.int .i64],[.el U.aQ]⟩
abbrev FG:Go.V.aN Go.V.K:=⟨[.ptr 0 0,.int .i64],[.el U.eK]⟩
abbrev FK:Go.V.aN Go.V.K:=⟨[.ah U.aQ],[]⟩
abbrev VK:Go.V.aN Go.V.K:=⟨[.int .i64,.int .i64,.int .i64],[.dead]⟩
abbrev VL:Go.V.aN Go.V.K:=⟨[.any,.any,.any],[.dead]⟩
abbrev GH:Go.V.aN Go.V.K:=⟨[.str,.ptr 0 0,.int .i64],[.el U.Module]⟩
abbrev GI:Go.V.aN Go.V.K:=⟨[.el U.Module,.str],[]⟩
abbrev GZ:Go.V.aN Go.V.K:=⟨[.ah U.Type,.own 1,.int .i64],[.dead,.arr U.i64]⟩
abbrev WI:Go.V.aN Go.V.K:=⟨[.any,.any,.any,.bool],[]⟩
abbrev WJ:Go.V.aN Go.V.K:=⟨[.rp U.eL 0,.int .i64,.int .i64,.any],[]⟩
abbrev WO:Go.V.aN Go.V.K:=⟨[.rp U.eL 0,.int .i64,.any],[]⟩
abbrev G9:Go.V.aN Go.V.K:=⟨[.ah U.aQ,.str,.str],[]⟩
abbrev He:Go.V.aN Go.V.K:=⟨[.rp U.eL 0,.int .i64],[]⟩
abbrev HD:Go.V.aN Go.V.K:=⟨[.own 1,.ah U.Type,.int .i64,.int .i64],[.dead,.arr U.i64]⟩
abbrev HW:Go.V.aN Go.V.K:=⟨[.ptr 0 0,.own 2],[.el U.eL,.dead,.arr U.str]⟩
abbrev ZH:Go.V.aN Go.V.K:=⟨[.own 1],[.dead,.tree U.Type]⟩
abbrev Is:Go.V.aN Go.V.K:=⟨[.el U.eL,.str],[]⟩
abbrev Nv:Go.V.aN Go.V.K:=⟨[.el U.Module,.int .i64],[]⟩
abbrev Nw:Go.V.aN Go.V.K:=⟨[.bT [.int .i64,.int .i64,.bool]],[]⟩
abbrev MI:Go.V.aN Go.V.K:=⟨[.own 0],[.arr U.i64]⟩
abbrev Nx:Go.V.aN Go.V.K:=⟨[.bT [.int .i64,.int .i64]],[]⟩
abbrev Ny:Go.V.aN Go.V.K:=⟨[.rp U.checker 0,.el U.Ins],[]⟩
abbrev LQ:Go.V.aN Go.V.K:=⟨[.ah U.aQ,.int .i64],[]⟩
abbrev L6:Go.V.aN Go.V.K:=⟨[.ah U.str,.str],[]⟩
abbrev MD:Go.V.aN Go.V.K:=⟨[.bT [.int .i64,.int .i64,.int .i64]],[]⟩
abbrev M8:Go.V.aN Go.V.K:=⟨[.int .i64],[.arr U.str]⟩
abbrev M9:Go.V.aN Go.V.K:=⟨[.int .i64],[.tree U.Type]⟩
abbrev Nb:Go.V.aN Go.V.K:=⟨[.int .i64],[.tree U.Param]⟩
abbrev Nh:Go.V.aN Go.V.K:=⟨[.int .i64],[.tree U.Func]⟩
abbrev Ni:Go.V.aN Go.V.K:=⟨[.int .i64],[.tree U.aQ]⟩
abbrev Nj:Go.V.aN Go.V.K:=⟨[.int .i64],[.arr U.Import]⟩
abbrev Nk:Go.V.aN Go.V.K:=⟨[.int .i64],[.arr U.Ins]⟩
abbrev Nl:Go.V.aN Go.V.K:=⟨[.int .i64],[.tree U.Core]⟩
abbrev Nn:Go.V.aN Go.V.K:=⟨[.int .i64],[.arr U.dA]⟩
abbrev Np:Go.V.aN Go.V.K:=⟨[.int .i64],[.arr U.Lower]⟩
abbrev Nq:Go.V.aN Go.V.K:=⟨[.int .i64],[.arr U.Builtin]⟩
abbrev Ns:Go.V.aN Go.V.K:=⟨[.bT [.el U.eK,.bool]],[]⟩
abbrev ack:Go.V.aN Go.V.K:=⟨[.ah U.Import,.int .i64,.int .i64],[]⟩
abbrev acm:Go.V.aN Go.V.K:=⟨[.ah U.Core,.int .i64,.int .i64],[]⟩
abbrev acn:Go.V.aN Go.V.K:=⟨[.ah U.Import,.own 1,.int .i64],[.dead,.arr U.Import]⟩
abbrev aco:Go.V.aN Go.V.K:=⟨[.ah U.Ins,.own 1,.int .i64],[.dead,.arr U.Ins]⟩
abbrev acp:Go.V.aN Go.V.K:=⟨[.ah U.Core,.own 1,.int .i64],[.dead,.tree U.Core]⟩
abbrev acr:Go.V.aN Go.V.K:=⟨[.ptr 0 0,.own 3,.own 4,.int .i64],[.el U.Core,.dead,.dead,.arr U.CodeBlock,.arr U.i64]⟩
abbrev acs:Go.V.aN Go.V.K:=⟨[.rp U.mm 0,.int .i64,.int .i64],[]⟩
abbrev acu:Go.V.aN Go.V.K:=⟨[.any,.any,.any,.dJ,.own 6,.int .i64,.int .i64],[.dead,.dead,.dead,.dead,.dead,.dead,.arr U.gI,.dead,.dead]⟩
abbrev acv:Go.V.aN Go.V.K:=⟨[.ptr 0 0,.ptr 1 0,.own 5,.any,.any,.any,.any],[.el U.Core,.box [.int .i64,.ah U.Import,.ah U.Core,.str,.int .i64,.int .i64,.bool,.ah U.Ins,.own 6,.own 7,.int .i64,.bool],.dead,.dead,.dead,.arr U.gI,.arr U.CodeBlock,.arr U.i64]⟩
abbrev acw:Go.V.aN Go.V.K:=⟨[.ptr 0 0,.ptr 1 0,.own 5,.int .i64],[.el U.Core,.box [.int .i64,.ah U.Import,.ah U.Core,.str,.int .i64,.int .i64,.bool,.ah U.Ins,.own 6,.own 7,.int .i64,.bool],.dead,.dead,.dead,.arr U.gI,.arr U.CodeBlock,.arr U.i64]⟩
abbrev acx:Go.V.aN Go.V.K:=⟨[.ptr 0 0,.own 3,.own 4,.ah U.Ins,.int .i64,.int .i64],[.el U.Core,.dead,.dead,.arr U.CodeBlock,.arr U.i64]⟩
abbrev acy:Go.V.aN Go.V.K:=⟨[.ptr 0 0,.el U.Ins],[.box [.int .i64,.ah U.Import,.ah U.Core,.str,.int .i64,.int .i64,.bool,.ah U.Ins,.ah U.CodeBlock,.int .i64,.own 1,.own 2,.int .i64,.bool],.arr U.i64,.arr U.i64]⟩
abbrev acz:Go.V.aN Go.V.K:=⟨[.int .i64],[.box [.int .i64,.ah U.Import,.ah U.Core,.str,.int .i64,.int .i64,.bool,.ah U.Ins,.ah U.CodeBlock,.int .i64,.own 3,.own 4,.int .i64,.bool],.dead,.dead,.arr U.i64,.arr U.i64]⟩
abbrev acA:Go.V.aN Go.V.K:=⟨[.any,.any,.any,.any,.own 6,.own 7,.int .i64,.int .i64],[.dead,.dead,.dead,.dead,.dead,.dead,.tree U.gI,.arr U.CodeBlock,.dead,.dead]⟩
abbrev acB:Go.V.aN Go.V.K:=⟨[.ptr 0 0,.ah U.CodeBlock,.ptr 1 0,.own 5,.any,.any,.any,.any],[.el U.Core,.box [.int .i64,.ah U.Import,.ah U.Core,.str,.int .i64,.int .i64,.bool,.ah U.Ins,.ah U.CodeBlock,.int .i64,.own 6,.own 7,.int .i64,.bool],.dead,.dead,.dead,.tree U.gI,.arr U.i64,.arr U.i64]⟩
abbrev acC:Go.V.aN Go.V.K:=⟨[.ptr 0 0,.ah U.CodeBlock,.ptr 1 0,.own 5,.ah U.Ins,.int .i64,.int .i64],[.el U.Core,.box [.int .i64,.ah U.Import,.ah U.Core,.str,.int .i64,.int .i64,.bool,.ah U.Ins,.ah U.CodeBlock,.int .i64,.own 6,.own 7,.int .i64,.bool],.dead,.dead,.dead,.tree U.gI,.arr U.i64,.arr U.i64]⟩
abbrev acD:Go.V.aN Go.V.K:=⟨[.ah U.Import,.ah U.Import,.int .i64],[]⟩
abbrev acE:Go.V.aN Go.V.K:=⟨[.ah U.Ins,.ah U.Ins,.int .i64],[]⟩
abbrev acF:Go.V.aN Go.V.K:=⟨[.ah U.Core,.ah U.Core,.int .i64],[]⟩
abbrev acG:Go.V.aN Go.V.K:=⟨[.ah U.Type,.ah U.Type,.int .i64],[]⟩
abbrev acH:Go.V.aN Go.V.K:=⟨[.any,.any,.int .i64,.int .i64],[.dead]⟩
abbrev acI:Go.V.aN Go.V.K:=⟨[.int .i64,.int .i64,.any,.any],[.dead]⟩
abbrev acJ:Go.V.aN Go.V.K:=⟨[.int .i64,.ptr 0 0,.int .i64,.int .i64,.int .i64],[.el U.Type]⟩
abbrev acK:Go.V.aN Go.V.K:=⟨[.int .i64,.int .i64,.ptr 0 0,.int .i64],[.el U.Type]⟩
abbrev acL:Go.V.aN Go.V.K:=⟨[.int .i64,.int .i64,.ah U.Type,.int .i64,.int .i64],[]⟩
abbrev acM:Go.V.aN Go.V.K:=⟨[.int .i64,.ah U.Type,.int .i64,.int .i64],[]⟩
abbrev acN:Go.V.aN Go.V.K:=⟨[.ah U.Type,.fn 285 [],.int .i64,.int .i64],[]⟩
abbrev acO:Go.V.aN Go.V.K:=⟨[.ah U.str,.fn 333 [],.int .i64,.int .i64],[]⟩
abbrev acP:Go.V.aN Go.V.K:=⟨[.ah U.Type,.fn 182 [],.int .i64,.int .i64],[]⟩
abbrev acQ:Go.V.aN Go.V.K:=⟨[.ah U.i64,.int .i64,.int .i64,.int .i64],[]⟩
abbrev acR:Go.V.aN Go.V.K:=⟨[.ah U.Type,.fn 210 [.rp U.m4 0],.int .i64,.int .i64],[]⟩
abbrev acS:Go.V.aN Go.V.K:=⟨[.ah U.Type,.fn 210 [.rp U.m4 0]],[]⟩
abbrev acT:Go.V.aN Go.V.K:=⟨[.ah U.Func,.int .i64,.int .i64],[]⟩
abbrev acU:Go.V.aN Go.V.K:=⟨[.any,.any,.any,.any,.int .i64],[]⟩
abbrev acV:Go.V.aN Go.V.K:=⟨[.str,.int .i64,.int .i64,.int .i64,.any],[]⟩
abbrev acW:Go.V.aN Go.V.K:=⟨[.str,.int .i64,.int .i64,.int .i64,.int .i64],[]⟩
abbrev acX:Go.V.aN Go.V.K:=⟨[.ptr 0 0,.int .i64,.any],[.el U.eK,.dead]⟩
abbrev acY:Go.V.aN Go.V.K:=⟨[.ptr 0 0,.int .i64,.ptr 1 0,.int .i64],[.el U.eK,.el U.Param]⟩
abbrev acZ:Go.V.aN Go.V.K:=⟨[.str,.own 1,.bool],[.dead,.arr U.str]⟩
abbrev ac0:Go.V.aN Go.V.K:=⟨[.ah U.str,.str,.own 1,.bool,.int .i64],[.dead,.arr U.str]⟩
abbrev ac1:Go.V.aN Go.V.K:=⟨[.ah U.str,.ptr 0 0,.int .i64],[.el U.Type]⟩
abbrev ac2:Go.V.aN Go.V.K:=⟨[.ah U.str,.ptr 0 0,.ah U.str,.int .i64],[.el U.eK]⟩
abbrev ac3:Go.V.aN Go.V.K:=⟨[.ah U.str,.ah U.str,.int .i64,.bool],[]⟩
abbrev ac4:Go.V.aN Go.V.K:=⟨[.ah U.str,.ah U.str,.int .i64,.bool,.int .i64],[]⟩
abbrev SK:Go.V.aN Go.V.K:=⟨[.int .i64,.ah U.str,.int .i64,.int .i64],[]⟩
abbrev SZ:Go.V.aN Go.V.K:=⟨[.ah U.str,.fn 167 [],.int .i64,.int .i64],[]⟩
abbrev Ta:Go.V.aN Go.V.K:=⟨[.ah U.Param,.own 1,.any],[.dead,.arr U.str]⟩
abbrev Td:Go.V.aN Go.V.K:=⟨[.ah U.Param,.own 1,.ah U.Param,.int .i64,.int .i64],[.dead,.arr U.str]⟩
abbrev Tq:Go.V.aN Go.V.K:=⟨[.own 1,.ah U.Type,.int .i64,.int .i64],[.dead,.arr U.str]⟩
abbrev Tz:Go.V.aN Go.V.K:=⟨[.own 1,.ah U.Param,.int .i64,.int .i64],[.dead,.arr U.str]⟩
abbrev TD:Go.V.aN Go.V.K:=⟨[.ah U.str,.str,.int .i64,.int .i64],[]⟩
abbrev TM:Go.V.aN Go.V.K:=⟨[.ah U.str,.fn 170 [.rp U.aQ 0],.int .i64,.int .i64],[]⟩
abbrev TP:Go.V.aN Go.V.K:=⟨[.ah U.str,.fn 170 [.rp U.aQ 0]],[]⟩
abbrev TU:Go.V.aN Go.V.K:=⟨[.own 2,.any],[.dead,.dead,.arr U.str]⟩
abbrev TW:Go.V.aN Go.V.K:=⟨[.ptr 0 0,.own 2,.ah U.Func,.int .i64,.int .i64],[.el U.aQ,.dead,.arr U.str]⟩
abbrev T0:Go.V.aN Go.V.K:=⟨[.own 1,.ah U.Param,.int .i64,.int .i64],[.dead,.arr U.Type]⟩
abbrev Ud:Go.V.aN Go.V.K:=⟨[.ah U.Type,.fn 174 [],.int .i64,.int .i64],[]⟩
abbrev Un:Go.V.aN Go.V.K:=⟨[.ah U.Func,.fn 138 [],.int .i64,.int .i64],[]⟩
abbrev Ut:Go.V.aN Go.V.K:=⟨[.ah U.aQ,.own 1,.any],[.dead,.arr U.str]⟩
abbrev Uw:Go.V.aN Go.V.K:=⟨[.ah U.aQ,.own 1,.ah U.aQ,.int .i64,.int .i64],[.dead,.arr U.str]⟩
abbrev UD:Go.V.aN Go.V.K:=⟨[.ah U.Param,.ah U.Param,.int .i64],[]⟩
abbrev UL:Go.V.aN Go.V.K:=⟨[.ah U.Func,.ah U.Func,.int .i64],[]⟩
abbrev US:Go.V.aN Go.V.K:=⟨[.ah U.aQ,.ah U.aQ,.int .i64],[]⟩
abbrev UY:Go.V.aN Go.V.K:=⟨[.ah U.dA,.int .i64,.int .i64],[]⟩
abbrev U3:Go.V.aN Go.V.K:=⟨[.ah U.Lower,.int .i64,.int .i64],[]⟩
abbrev U8:Go.V.aN Go.V.K:=⟨[.ah U.Builtin,.int .i64,.int .i64],[]⟩
abbrev Vi:Go.V.aN Go.V.K:=⟨[.ah U.dA,.own 1,.int .i64],[.dead,.arr U.dA]⟩
abbrev Vn:Go.V.aN Go.V.K:=⟨[.ah U.Lower,.own 1,.int .i64],[.dead,.arr U.Lower]⟩
abbrev Vs:Go.V.aN Go.V.K:=⟨[.ah U.Builtin,.own 1,.int .i64],[.dead,.arr U.Builtin]⟩
abbrev VZ:Go.V.aN Go.V.K:=⟨[.ptr 1 0,.ptr 2 0],[.dead,.box [.int .i64,.str,.own 7,.own 8],.box [.int .i64,.str,.own 9,.own 10],.dead,.dead,.dead,.dead,.arr U.str,.arr U.Type,.arr U.str,.arr U.Type]⟩
abbrev V1:Go.V.aN Go.V.K:=⟨[.ptr 0 0,.ptr 1 0,.ptr 2 0,.int .i64],[.el U.Type,.box [.int .i64,.str,.own 7,.own 8],.box [.int .i64,.str,.own 9,.own 10],.dead,.dead,.dead,.dead,.arr U.str,.arr U.Type,.arr U.str,.arr U.Type]⟩
abbrev V6:Go.V.aN Go.V.K:=⟨[.ptr 0 0,.own 2,.int .i64],[.el U.eK,.dead,.arr U.Type]⟩
abbrev Wj:Go.V.aN Go.V.K:=⟨[.ah U.i64,.ah U.i64,.own 1,.int .i64],[.dead,.arr U.i64]⟩
abbrev W6:Go.V.aN Go.V.K:=⟨[.ah U.aQ,.str,.int .i64,.int .i64],[]⟩
abbrev Xs:Go.V.aN Go.V.K:=⟨[.ah U.Ins,.fn 248 [],.int .i64,.int .i64],[]⟩
abbrev XD:Go.V.aN Go.V.K:=⟨[.ah U.dA,.ah U.dA,.int .i64],[]⟩
abbrev XI:Go.V.aN Go.V.K:=⟨[.ah U.Lower,.ah U.Lower,.int .i64],[]⟩
abbrev XN:Go.V.aN Go.V.K:=⟨[.ah U.Builtin,.ah U.Builtin,.int .i64],[]⟩
abbrev XT:Go.V.aN Go.V.K:=⟨[.any,.any,.any,.bool],[.dead,.dead,.dead,.dead,.dead]⟩
abbrev XU:Go.V.aN Go.V.K:=⟨[.ptr 0 0,.own 3,.own 4,.any],[.el U.Module,.dead,.dead,.arr U.str,.arr U.str]⟩
abbrev XW:Go.V.aN Go.V.K:=⟨[.ptr 0 0,.own 3,.own 4,.ah U.Import,.int .i64,.int .i64],[.el U.Module,.dead,.dead,.arr U.str,.arr U.str]⟩
abbrev XX:Go.V.aN Go.V.K:=⟨[.any,.any,.bool],[.dead,.dead,.dead,.dead]⟩
abbrev XY:Go.V.aN Go.V.K:=⟨[.own 2,.own 3,.any],[.dead,.dead,.arr U.str,.arr U.str]⟩
abbrev X0:Go.V.aN Go.V.K:=⟨[.own 2,.own 3,.ah U.Core,.int .i64,.int .i64],[.dead,.dead,.arr U.str,.arr U.str]⟩
abbrev Yd:Go.V.aN Go.V.K:=⟨[.ah U.str,.fn 250 [],.int .i64,.int .i64],[]⟩
abbrev Yl:Go.V.aN Go.V.K:=⟨[.ptr 0 0,.int .i64,.int .i64],[.el U.Module]⟩
abbrev Yu:Go.V.aN Go.V.K:=⟨[.own 2,.ah U.aQ,.int .i64,.int .i64],[.dead,.dead,.arr U.bound]⟩
abbrev Yw:Go.V.aN Go.V.K:=⟨[.own 2,.ptr 1 0,.ah U.aQ,.int .i64,.int .i64,.ah U.Func,.int .i64,.int .i64],[.dead,.el U.aQ,.arr U.bound]⟩
abbrev Yy:Go.V.aN Go.V.K:=⟨[.own 1,.ah U.aQ,.int .i64,.int .i64],[.dead,.arr U.bound]⟩
abbrev YD:Go.V.aN Go.V.K:=⟨[.ah U.Core,.fn 179 [.rp U.str 0],.int .i64,.int .i64],[]⟩
abbrev YK:Go.V.aN Go.V.K:=⟨[.ah U.i64,.ah U.i64,.own 1,.int .i64,.int .i64],[.dead,.arr U.i64]⟩
abbrev Y2:Go.V.aN Go.V.K:=⟨[.ptr 0 0,.ah U.bound,.ah U.dA,.int .i64,.int .i64],[.el U.eL]⟩
abbrev Y8:Go.V.aN Go.V.K:=⟨[.ah U.Import,.fn 184 [.rp U.str 0],.int .i64,.int .i64],[]⟩
abbrev Ze:Go.V.aN Go.V.K:=⟨[.ptr 0 0,.ah U.bound,.ah U.Lower,.int .i64,.int .i64],[.el U.eL]⟩
abbrev Zh:Go.V.aN Go.V.K:=⟨[.ptr 0 0,.bool],[.el U.aQ,.dead,.dead]⟩
abbrev Zi:Go.V.aN Go.V.K:=⟨[.ptr 0 0,.any],[.box [.str,.str,.str,.own 3,.own 4],.dead,.dead,.arr U.str,.arr U.Func]⟩
abbrev Zk:Go.V.aN Go.V.K:=⟨[.str,.ptr 0 0,.ah U.aQ,.int .i64,.int .i64],[.box [.str,.str,.str,.own 3,.own 4],.dead,.dead,.arr U.str,.arr U.Func]⟩
abbrev Zq:Go.V.aN Go.V.K:=⟨[.ptr 0 0,.ah U.Builtin,.int .i64,.int .i64],[.el U.eL]⟩
abbrev Zu:Go.V.aN Go.V.K:=⟨[.ptr 0 0,.own 2,.ah U.Lower,.int .i64,.int .i64],[.el U.eL,.dead,.arr U.str]⟩
abbrev Zw:Go.V.aN Go.V.K:=⟨[.ptr 0 0,.own 2,.ah U.Builtin,.int .i64,.int .i64],[.el U.eL,.dead,.arr U.str]⟩
abbrev ZD:Go.V.aN Go.V.K:=⟨[.ah U.str,.own 1,.int .i64],[.dead,.arr U.str]⟩
abbrev ZK:Go.V.aN Go.V.K:=⟨[.ah U.Type,.own 1,.int .i64],[.dead,.tree U.Type]⟩
abbrev ZO:Go.V.aN Go.V.K:=⟨[.agg [.int .i64,.str,.own 0,.own 1]],[.arr U.str,.tree U.Type]⟩
abbrev ZU:Go.V.aN Go.V.K:=⟨[.ah U.Param,.own 1,.int .i64],[.dead,.tree U.Param]⟩
abbrev ZZ:Go.V.aN Go.V.K:=⟨[.agg [.own 0,.int .i64,.str,.own 1,.own 2,.bool]],[.tree U.Param,.arr U.str,.tree U.Type]⟩
abbrev Z3:Go.V.aN Go.V.K:=⟨[.ah U.Func,.own 1,.int .i64],[.dead,.tree U.Func]⟩
abbrev Z9:Go.V.aN Go.V.K:=⟨[.ah U.aQ,.own 1,.int .i64],[.dead,.tree U.aQ]⟩
abbrev aaj:Go.V.aN Go.V.K:=⟨[.own 0,.int .i64,.int .i64],[.arr U.str]⟩
abbrev aam:Go.V.aN Go.V.K:=⟨[.own 0,.int .i64,.int .i64],[.tree U.Type]⟩
abbrev aaq:Go.V.aN Go.V.K:=⟨[.own 0,.int .i64,.int .i64],[.tree U.Param]⟩
abbrev aau:Go.V.aN Go.V.K:=⟨[.own 0,.int .i64,.int .i64],[.tree U.Func]⟩
abbrev aay:Go.V.aN Go.V.K:=⟨[.own 0,.int .i64,.int .i64],[.tree U.aQ]⟩
abbrev aaC:Go.V.aN Go.V.K:=⟨[.own 0,.int .i64,.int .i64],[.arr U.Import]⟩
abbrev aaG:Go.V.aN Go.V.K:=⟨[.own 0,.int .i64,.int .i64],[.arr U.Ins]⟩
abbrev aaK:Go.V.aN Go.V.K:=⟨[.own 0,.int .i64,.int .i64],[.tree U.Core]⟩
abbrev aaQ:Go.V.aN Go.V.K:=⟨[.own 0,.int .i64,.int .i64],[.arr U.dA]⟩
abbrev aaU:Go.V.aN Go.V.K:=⟨[.own 0,.int .i64,.int .i64],[.arr U.Lower]⟩
abbrev aaY:Go.V.aN Go.V.K:=⟨[.own 0,.int .i64,.int .i64],[.arr U.Builtin]⟩
abbrev aa5:Go.V.aN Go.V.K:=⟨[.ptr 1 0,.ptr 2 0],[.dead,.box [.own 7,.int .i64,.str,.own 8,.own 9,.bool],.box [.own 10,.int .i64,.str,.ah U.str,.ah U.Type,.bool],.dead,.dead,.dead,.dead,.arr U.Param,.arr U.str,.arr U.Type,.arr U.Param]⟩
abbrev aa7:Go.V.aN Go.V.K:=⟨[.ptr 0 0,.ptr 1 0,.ptr 2 0,.int .i64],[.el U.eK,.box [.own 7,.int .i64,.str,.own 8,.own 9,.bool],.box [.own 10,.int .i64,.str,.ah U.str,.ah U.Type,.bool],.dead,.dead,.dead,.dead,.arr U.Param,.arr U.str,.arr U.Type,.arr U.Param]⟩
abbrev abb:Go.V.aN Go.V.K:=⟨[.str,.ptr 0 0,.int .i64],[.el U.aQ]⟩
abbrev abh:Go.V.aN Go.V.K:=⟨[.ptr 1 0,.ptr 2 0,.bool],[.box [.str,.str,.ah U.aQ,.ah U.aQ,.int .i64,.int .i64,.int .i64,.ah U.Import,.ah U.Core,.ah U.dA,.ah U.Lower,.ah U.Builtin],.el U.Lower,.el U.eK,.dead,.dead,.dead]⟩
abbrev abj:Go.V.aN Go.V.K:=⟨[.ptr 1 0,.ptr 2 0,.any],[.box [.str,.str,.ah U.aQ,.ah U.aQ,.int .i64,.int .i64,.int .i64,.ah U.Import,.ah U.Core,.ah U.dA,.ah U.Lower,.ah U.Builtin],.el U.Lower,.box [.own 6,.int .i64,.str,.own 7,.own 8,.bool],.dead,.dead,.dead,.arr U.Param,.arr U.str,.arr U.Type]⟩
abbrev abl:Go.V.aN Go.V.K:=⟨[.ptr 0 0,.str,.ptr 1 0,.ptr 2 0,.int .i64],[.el U.eL,.el U.Lower,.box [.own 6,.int .i64,.str,.own 7,.own 8,.bool],.dead,.dead,.dead,.arr U.Param,.arr U.str,.arr U.Type]⟩
abbrev abq:Go.V.aN Go.V.K:=⟨[.bT [.el U.Lower,.el U.eK,.bool]],[]⟩
abbrev abt:Go.V.aN Go.V.K:=⟨[.own 1,.ah U.Type,.int .i64,.int .i64],[.dead,.tree U.Type]⟩
abbrev abB:Go.V.aN Go.V.K:=⟨[.ah U.Func,.fn 150 [.rp U.str 0],.int .i64,.int .i64],[]⟩
abbrev abJ:Go.V.aN Go.V.K:=⟨[.ptr 0 0,.ptr 1 0],[.box [.own 8,.int .i64,.str,.own 9,.own 10,.bool],.box [.own 11,.int .i64,.str,.own 12,.own 13,.bool],.dead,.dead,.dead,.dead,.dead,.dead,.tree U.Param,.arr U.str,.tree U.Type,.tree U.Param,.arr U.str,.tree U.Type]⟩
abbrev abK:Go.V.aN Go.V.K:=⟨[.ptr 0 0,.ptr 1 0,.ah U.Param,.int .i64,.int .i64],[.box [.own 8,.int .i64,.str,.own 9,.own 10,.bool],.box [.own 11,.int .i64,.str,.own 12,.own 13,.bool],.dead,.dead,.dead,.dead,.dead,.dead,.tree U.Param,.arr U.str,.tree U.Type,.tree U.Param,.arr U.str,.tree U.Type]⟩
abbrev abM:Go.V.aN Go.V.K:=⟨[.ptr 1 0,.ptr 2 0,.bool],[.dead,.el U.Lower,.el U.eK,.dead,.dead,.dead]⟩
abbrev abP:Go.V.aN Go.V.K:=⟨[.ptr 1 0,.ptr 2 0,.any],[.dead,.el U.Lower,.box [.own 6,.int .i64,.str,.own 7,.own 8,.bool],.dead,.dead,.dead,.arr U.Param,.arr U.str,.arr U.Type]⟩
abbrev abR:Go.V.aN Go.V.K:=⟨[.str,.ptr 0 0,.ptr 1 0,.ptr 2 0,.ah U.Lower,.int .i64,.int .i64],[.el U.eL,.el U.Lower,.box [.own 6,.int .i64,.str,.own 7,.own 8,.bool],.dead,.dead,.dead,.arr U.Param,.arr U.str,.arr U.Type]⟩
def Nz:Go.TypeId->Option U:=cP [(2,U.i64),(3,U.i64),(4,U.bool),(5,U.u8),(6,U.u8),(9,U.str),(10,U.str),(11,U.str),(12,U.u64),(21,U.i32),(22,U.sA),(23,U.sB),(24,U.sC),(26,U.Module),(27,U.sD),(28,U.sE),(29,U.sF),(31,U.eL),(33,U.sG),(34,U.vz),(35,U.sH),(37,U.Type),(39,U.eK),(42,U.sA),(43,U.sB),(44,U.sC),(46,U.Module),(47,U.sD),(48,U.sE),(49,U.sF),(51,U.eL),(59,U.Lower),(94,U.sJ),(96,U.aQ),(101,U.dA),(103,U.Lower),(106,U.Builtin),(110,U.dA),(113,U.Param),(114,U.sJ),(116,U.aQ),(122,U.Builtin),(142,U.Import),(144,U.sK),(146,U.Core),(155,U.Func),(158,U.Import),(160,U.sK),(162,U.Core),(172,U.vA),(175,U.sG),(176,U.sH),(178,U.Type),(180,U.eK),(182,U.Func),(200,U.vB),(204,U.bound),(209,U.Ins),(215,U.m4),(220,U.Ins),(242,U.vC),(259,U.vD),(265,U.Param),(275,U.mm),(277,U.gI),(295,U.checker),(301,U.u64),(303,U.m4),(305,U.CodeBlock),(317,U.i64),(318,U.u64),(334,U.i64),(343,U.u32),(356,U.u64),(388,U.u8),(389,U.u8),(391,U.i32),(392,U.i32)]
def atw:Go.TypeId->List (Option U):=cV [] [(22,[some U.aQ]),(23,[some U.Import]),(24,[some U.Core]),(26,[none,some U.Import,some U.Core]),(27,[some U.dA]),(28,[some U.Lower]),(29,[some U.Builtin]),(31,[none,none,some U.aQ,some U.aQ,none,none,none,some U.Import,some U.Core,some U.dA,some U.Lower,some U.Builtin]),(33,[some U.Param]),(34,[some U.str]),(35,[some U.Type]),(37,[none,none,some U.str,some U.Type]),(39,[some U.Param,none,none,some U.str,some U.Type,none]),(42,[some U.aQ]),(43,[some U.Import]),(44,[some U.Core]),(46,[none,some U.Import,some U.Core]),(47,[some U.dA]),(48,[some U.Lower]),(49,[some U.Builtin]),(51,[none,none,some U.aQ,some U.aQ,none,none,none,some U.Import,some U.Core,some U.dA,some U.Lower,some U.Builtin]),(94,[some U.Func]),(96,[none,none,none,some U.str,some U.Func]),(113,[none,none,none,some U.str,some U.Type]),(114,[some U.Func]),(116,[none,none,none,some U.str,some U.Func]),(144,[some U.Ins]),(146,[none,none,none,none,some U.Ins]),(155,[none,some U.Param,none,none,some U.str,some U.Type,none]),(160,[some U.Ins]),(162,[none,none,none,none,some U.Ins]),(172,[some U.u8]),(175,[some U.Param]),(176,[some U.Type]),(178,[none,none,some U.str,some U.Type]),(180,[some U.Param,none,none,some U.str,some U.Type,none]),(182,[none,some U.Param,none,none,some U.str,some U.Type,none]),(200,[some U.bound]),(204,[none,none,some U.Param,none,none,some U.str,some U.Type,none]),(215,[some U.i64]),(242,[some U.gI]),(259,[some U.CodeBlock]),(265,[none,none,none,some U.str,some U.Type]),(275,[none,some U.Import,some U.Core,none,none,none,none,some U.Ins,some U.CodeBlock,some U.i64,none,none]),(277,[none,none,some U.i64]),(295,[none,some U.Import,some U.Core,none,none,none,none,some U.Ins,some U.CodeBlock,none,some U.i64,some U.i64,none,none]),(303,[some U.i64])]
theorem aW:Tryz.prog.follows .mixedOrders=true:=by kernel_rfl
abbrev aj(c:az K):Prop:=c.Ok D Tryz.prog
abbrev KT(R:Type):=Ex->List (AV K)->List (Ob K)->R
def kk{R:Type}(k:KT R)(e:Ex)(s:aN K)(v:s.T):R:=k e (aN.lI D s v) (aN.ju D s v)
def cB(f:FuncId)(sh:aN K)(run:sh.T->Option Bool):az K:={f:=f,sh:=sh,R:=Bool,run:=run,dflt:=default,out:=fun r=>(Sh.enc D (.bool) r,aU.encs D [] ())}
def cI(f:FuncId)(sh:aN K)(run:sh.T->Option Int):az K:={f:=f,sh:=sh,R:=Int,run:=run,dflt:=default,out:=fun r=>(Sh.enc D (.int .i64) r,aU.encs D [] ())}
def cS(f:FuncId)(sh:aN K)(run:sh.T->Option (List UInt8)):az K:={f:=f,sh:=sh,R:=List UInt8,run:=run,dflt:=default,out:=fun r=>(Sh.enc D (.str) r,aU.encs D [] ())}
def dc:Cx K:={P:=Tryz.prog,D:=D,ty:=Nz,m5:=atw,mode:=cV .plain [],call:=callOf D [],loop:=cP []}
def aT(m:List (FuncId×Go.V.Mode))(c:List (az K))(l:List (Nat×bo K)):Cx K:={dc with mode:=cV .plain m,call:=callOf D c,loop:=cP l}
theorem aL{cx:Cx K}(fz:Bool)(hc:aK cx){c:az K}{fn:Func}(hg:cx.P.funcs[c.f]?=some fn)(hl:∀b,fn.body=some b->iZ cx b)(d:CX K cx.D c.R)(he:∀x,IK cx fz fn (c.sh.lI cx.D x) (c.sh.ju cx.D x) d.fin=c.run x)(hD:bY cx.D:=by exact ak)(hm:cx.P.follows .mixedOrders=true:=by exact aW)(hn:(fn.name== "runtime.NumGoroutine")=false:=by kernel_rfl)(ho:∀x,([(c.out (d.conv x)).1],(c.out (d.conv x)).2)=(d.sh.lI cx.D x,d.sh.ju cx.D x):=by exact fun x=>rfl):c.Ok cx.D cx.P:=fb hD hc hm ⟨hg,hn⟩ hl d ho he
def ac5(m:M.aM->Int->Option Int):az K:=cI 87 ⟨[.el U.Import,.int .i64],[]⟩ (fun x=>m x.1.1 x.1.2.1)
def dU:Cx K:=aT [] [] []
theorem dZ:aK dU:=aO ak _ an
theorem atx:aj (ac5 (M.CY)):=aL (cx:=dU) true dZ Tryz.func87 (aH (aE (by kernel_rfl))) ⟨zs1,fun x=>x.1.1⟩ (fun x=>by kernel_rfl)
def lD(y:Int⊕Int){R:Type}(k:KT R):R:=match y with|.inl a0=>kk k Ex.ret zs3 (((),(a0,())),())|.inr a1=>kk k (Ex.exit 0) zs4 ((a1,((),())),())
def lE:List (cF K ((Int)⊕Int)):=[⟨Ex.ret,zs3,fun x=>.inl x.1.2.1⟩,⟨(Ex.exit 0),zs4,fun x=>.inr (x.1.1)⟩]
def ac6:bo K:=bA D false 27 0 [0,1,5] [1,4] ack (fun x=>M.vE x.1.1 ae x.1.2.1 x.1.2.2.1) lD
def ac7(m:(List M.aM)->Int->Option Int):az K:=cI 52 ⟨[.ah U.Import,.int .i64],[]⟩ (fun x=>m x.1.1 x.1.2.1)
def IL:Cx K:=aT [(87,.plain)] [ac5 M.CY] [(5,ac6)]
theorem ac8:aK IL:=aO ak _ (af atx an)
theorem aty:bp IL (bm (bw Tryz.f52) 0) ac6:=bB (cx:=IL) (sh:=ack) (run:=fun n x=>M.vE x.1.1 n x.1.2.1 x.1.2.2.1) (bq:=lE) ak ac8 aW (aE (by kernel_rfl)) (fun _=>rfl) (fun m x=>by kernel_rfl) (af ⟨cm,fun _ _ _=>rfl⟩ (af ⟨bC,fun _ _ _=>rfl⟩ an)) false ae
theorem atz:aj (ac7 (M.CZ)):=aL (cx:=IL) true ac8 Tryz.func52 (aH (bH 1 (by kernel_rfl) (bI (.mk (by kernel_rfl) aty)))) ⟨zs1,fun x=>x.1.1⟩ (fun x=>by kernel_rfl)
def ac9(m:(List M.aJ)->Int->Option Int):az K:=cI 123 ⟨[.ah U.Ins,.int .i64],[]⟩ (fun x=>m x.1.1 x.1.2.1)
theorem atA:aj (ac9 (M.C0)):=aL (cx:=dU) true dZ Tryz.func123 (aH (aE (by kernel_rfl))) ⟨zs1,fun x=>x.1.1⟩ (fun x=>by kernel_rfl)
def ada(m:M.aw->Int->Option Int):az K:=cI 88 ⟨[.el U.Core,.int .i64],[]⟩ (fun x=>m x.1.1 x.1.2.1)
def adb:Cx K:=aT [(123,.plain)] [ac9 M.C0] []
theorem atB:aK adb:=aO ak _ (af atA an)
theorem atC:aj (ada (M.C2)):=aL (cx:=adb) true atB Tryz.func88 (aH (aE (by kernel_rfl))) ⟨zs1,fun x=>x.1.1⟩ (fun x=>by kernel_rfl)
def ade:bo K:=bA D false 27 0 [0,1,5] [1,4] acm (fun x=>M.vF x.1.1 ae x.1.2.1 x.1.2.2.1) lD
def adf(m:(List M.aw)->Int->Option Int):az K:=cI 53 ⟨[.ah U.Core,.int .i64],[]⟩ (fun x=>m x.1.1 x.1.2.1)
def IM:Cx K:=aT [(88,.plain)] [ada M.C2] [(5,ade)]
theorem adg:aK IM:=aO ak _ (af atC an)
theorem atD:bp IM (bm (bw Tryz.f53) 0) ade:=bB (cx:=IM) (sh:=acm) (run:=fun n x=>M.vF x.1.1 n x.1.2.1 x.1.2.2.1) (bq:=lE) ak adg aW (aE (by kernel_rfl)) (fun _=>rfl) (fun m x=>by kernel_rfl) (af ⟨cm,fun _ _ _=>rfl⟩ (af ⟨bC,fun _ _ _=>rfl⟩ an)) false ae
theorem atE:aj (adf (M.C3)):=aL (cx:=IM) true adg Tryz.func53 (aH (bH 1 (by kernel_rfl) (bI (.mk (by kernel_rfl) atD)))) ⟨zs1,fun x=>x.1.1⟩ (fun x=>by kernel_rfl)
def Vf(m:M.aR->Int->Option Int):az K:=cI 18 Nv (fun x=>m x.1.1 x.1.2.1)
def adh:Cx K:=aT [(52,.plain),(53,.plain)] [ac7 M.CZ,adf M.C3] []
theorem atF:aK adh:=aO ak _ (af atz (af atE an))
theorem an5:aj (Vf (M.A5)):=aL (cx:=adh) true atF Tryz.func18 (aH (aE (by kernel_rfl))) ⟨zs1,fun x=>x.1.1⟩ (fun x=>by kernel_rfl)
def adi(m:M.aM->Option (M.aM)):az K:={f:=102,sh:=⟨[.el U.Import],[]⟩,R:=M.aM,run:=fun x=>m x.1.1,dflt:=default,out:=fun r=>(Sh.enc D (.el U.Import) r,aU.encs D [] ())}
def xR:Cx K:={dc with mode:=cV .plain [],eJ:=[[]],deep:=fun c=>cQ (D.cells c (K.zero c)),call:=callOf D [],loop:=cP []}
theorem A7:aK xR:=aO ak _ an
theorem atG:aj (adi (M.IN)):=aL (cx:=xR) false A7 Tryz.func102 (aH (aE (by kernel_rfl))) ⟨⟨[.el U.Import],[]⟩,fun x=>x.1.1⟩ (fun x=>by kernel_rfl)
def atH(y:(List M.aM)){R:Type}(k:KT R):R:=match y with|a0=>kk k (Ex.exit 0) ⟨[.own 1],[.dead,.arr U.Import]⟩ (((),()),((),(a0,())))
def atI:List (cF K ((List M.aM))):=[⟨(Ex.exit 0),⟨[.own 1],[.dead,.arr U.Import]⟩,fun x=>x.2.2.1⟩]
def adk:bo K:=bA D false 23 1 [0,3,4] [3] acn (fun x=>M.sL x.1.1 ae x.1.2.2.1 x.2.2.1) atH
def adl(m:(List M.aM)->Option ((List M.aM))):az K:={f:=61,sh:=⟨[.ah U.Import],[]⟩,R:=(List M.aM),run:=fun x=>m x.1.1,dflt:=default,out:=fun r=>(Sh.enc D (.own 0) (),aU.encs D [.arr U.Import] (r,()))}
def IP:Cx K:={dc with mode:=cV .plain [(102,.fresh)],eJ:=[[some U.Import]],deep:=fun c=>cQ (D.cells c (K.zero c)),call:=callOf D [adi M.IN],loop:=cP [(3,adk)]}
theorem adm:aK IP:=aO ak _ (af atG an)
theorem atJ:bp IP (bm (bw Tryz.f61) 0) adk:=bB (cx:=IP) (sh:=acn) (run:=fun n x=>M.sL x.1.1 n x.1.2.2.1 x.2.2.1) (bq:=atI) ak adm aW (aE (by kernel_rfl)) (fun _=>rfl) (fun m x=>by kernel_rfl) (af ⟨bC,fun _ _ _=>rfl⟩ an) false ae
theorem atK:aj (adl (M.C4)):=aL (cx:=IP) false adm Tryz.func61 (aH (bH 1 (by kernel_rfl) (bI (.mk (by kernel_rfl) atJ)))) ⟨⟨[.own 0],[.arr U.Import]⟩,fun x=>x.2.1⟩ (fun x=>by kernel_rfl)
def adn(m:M.aJ->Option (M.aJ)):az K:={f:=163,sh:=Bc,R:=M.aJ,run:=fun x=>m x.1.1,dflt:=default,out:=fun r=>(Sh.enc D (.el U.Ins) r,aU.encs D [] ())}
theorem atL:aj (adn (M.IQ)):=aL (cx:=xR) false A7 Tryz.func163 (aH (aE (by kernel_rfl))) ⟨Bc,fun x=>x.1.1⟩ (fun x=>by kernel_rfl)
def atM(y:(List M.aJ)){R:Type}(k:KT R):R:=match y with|a0=>kk k (Ex.exit 0) ⟨[.own 1],[.dead,.arr U.Ins]⟩ (((),()),((),(a0,())))
def atN:List (cF K ((List M.aJ))):=[⟨(Ex.exit 0),⟨[.own 1],[.dead,.arr U.Ins]⟩,fun x=>x.2.2.1⟩]
def ado:bo K:=bA D false 23 1 [0,3,4] [3] aco (fun x=>M.sM x.1.1 ae x.1.2.2.1 x.2.2.1) atM
def adp(m:(List M.aJ)->Option ((List M.aJ))):az K:={f:=134,sh:=⟨[.ah U.Ins],[]⟩,R:=(List M.aJ),run:=fun x=>m x.1.1,dflt:=default,out:=fun r=>(Sh.enc D (.own 0) (),aU.encs D [.arr U.Ins] (r,()))}
def IS:Cx K:={dc with mode:=cV .plain [(163,.fresh)],eJ:=[[some U.Ins]],deep:=fun c=>cQ (D.cells c (K.zero c)),call:=callOf D [adn M.IQ],loop:=cP [(3,ado)]}
theorem adq:aK IS:=aO ak _ (af atL an)
theorem atO:bp IS (bm (bw Tryz.f134) 0) ado:=bB (cx:=IS) (sh:=aco) (run:=fun n x=>M.sM x.1.1 n x.1.2.2.1 x.2.2.1) (bq:=atN) ak adq aW (aE (by kernel_rfl)) (fun _=>rfl) (fun m x=>by kernel_rfl) (af ⟨bC,fun _ _ _=>rfl⟩ an) false ae
theorem atP:aj (adp (M.C5)):=aL (cx:=IS) false adq Tryz.func134 (aH (bH 1 (by kernel_rfl) (bI (.mk (by kernel_rfl) atO)))) ⟨⟨[.own 0],[.arr U.Ins]⟩,fun x=>x.2.1⟩ (fun x=>by kernel_rfl)
def adr(m:M.aw->Option ((List UInt8)×Int×Int×Bool×(List M.aJ))):az K:={f:=103,sh:=Bd,R:=(List UInt8)×Int×Int×Bool×(List M.aJ),run:=fun x=>m x.1.1,dflt:=default,out:=fun r=>(Sh.enc D (.agg [.str,.int .i64,.int .i64,.bool,.own 0]) (r.1,(r.2.1,(r.2.2.1,(r.2.2.2.1,((),()))))),aU.encs D [.arr U.Ins] (r.2.2.2.2,()))}
def ads:Cx K:={dc with mode:=cV .plain [(134,.fresh)],eJ:=[[none,none,none,none,some U.Ins]],deep:=fun c=>cQ (D.cells c (K.zero c)),call:=callOf D [adp M.C5],loop:=cP []}
theorem atQ:aK ads:=aO ak _ (af atP an)
theorem atS:aj (adr (M.C6)):=aL (cx:=ads) false atQ Tryz.func103 (aH (aE (by kernel_rfl))) ⟨⟨[.agg [.str,.int .i64,.int .i64,.bool,.own 0]],[.arr U.Ins]⟩,fun x=>(x.1.1.1,x.1.1.2.1,x.1.1.2.2.1,x.1.1.2.2.2.1,x.2.1)⟩ (fun x=>by kernel_rfl)
def atT(y:(List M.aw)){R:Type}(k:KT R):R:=match y with|a0=>kk k (Ex.exit 0) ⟨[.own 1],[.dead,.tree U.Core]⟩ (((),()),((),(a0,())))
def atU:List (cF K ((List M.aw))):=[⟨(Ex.exit 0),⟨[.own 1],[.dead,.tree U.Core]⟩,fun x=>x.2.2.1⟩]
def adt:bo K:=bA D false 23 1 [0,3,4] [3] acp (fun x=>M.sN x.1.1 ae x.1.2.2.1 x.2.2.1) atT
def adu(m:(List M.aw)->Option ((List M.aw))):az K:={f:=62,sh:=⟨[.ah U.Core],[]⟩,R:=(List M.aw),run:=fun x=>m x.1.1,dflt:=default,out:=fun r=>(Sh.enc D (.own 0) (),aU.encs D [.tree U.Core] (r,()))}
def IT:Cx K:={dc with mode:=cV .plain [(103,.fresh)],eJ:=[[some U.Core]],deep:=fun c=>cQ (D.cells c (K.zero c)),call:=callOf D [adr M.C6],loop:=cP [(3,adt)]}
theorem adv:aK IT:=aO ak _ (af atS an)
theorem atV:bp IT (bm (bw Tryz.f62) 0) adt:=bB (cx:=IT) (sh:=acp) (run:=fun n x=>M.sN x.1.1 n x.1.2.2.1 x.2.2.1) (bq:=atU) ak adv aW (aE (by kernel_rfl)) (fun _=>rfl) (fun m x=>by kernel_rfl) (af ⟨bC,fun _ _ _=>rfl⟩ an) false ae
theorem atW:aj (adu (M.C7)):=aL (cx:=IT) false adv Tryz.func62 (aH (bH 1 (by kernel_rfl) (bI (.mk (by kernel_rfl) atV)))) ⟨⟨[.own 0],[.tree U.Core]⟩,fun x=>x.2.1⟩ (fun x=>by kernel_rfl)
def aaf(m:M.aR->Option (Int×(List M.aM)×(List M.aw))):az K:={f:=26,sh:=pZ,R:=Int×(List M.aM)×(List M.aw),run:=fun x=>m x.1.1,dflt:=default,out:=fun r=>(Sh.enc D (.agg [.int .i64,.own 0,.own 1]) (r.1,((),((),()))),aU.encs D [.arr U.Import,.tree U.Core] (r.2.1,(r.2.2,())))}
def adw:Cx K:={dc with mode:=cV .plain [(61,.fresh),(62,.fresh)],eJ:=[[none,some U.Import,some U.Core]],deep:=fun c=>cQ (D.cells c (K.zero c)),call:=callOf D [adl M.C4,adu M.C7],loop:=cP []}
theorem atX:aK adw:=aO ak _ (af atK (af atW an))
theorem arI:aj (aaf (M.B2)):=aL (cx:=adw) false atX Tryz.func26 (aH (aE (by kernel_rfl))) ⟨⟨[.agg [.int .i64,.own 0,.own 1]],[.arr U.Import,.tree U.Core]⟩,fun x=>(x.1.1.1,x.2.1,x.2.2.1)⟩ (fun x=>by kernel_rfl)
def MQ(y:Bool⊕((List UInt8))){R:Type}(k:KT R):R:=match y with|.inl a0=>kk k Ex.ret GO (((),(a0,())),())|.inr a1=>kk k (Ex.exit 0) ach ((a1,((),())),())
def MS:List (cF K ((Bool)⊕((List UInt8)))):=[⟨Ex.ret,GO,fun x=>.inl x.1.2.1⟩,⟨(Ex.exit 0),ach,fun x=>.inr (x.1.1)⟩]
def adx:bo K:=bA D false 49 0 [0,3] [0,2] IG (fun x=>M.vG x.1.1 ae x.1.2.1) MQ
def MB(m:(List UInt8)->Option Bool):az K:=cB 225 ib (fun x=>m x.1.1)
def IU:Cx K:=aT [] [] [(2,adx)]
theorem ady:aK IU:=aO ak _ an
theorem atY:bp IU (bm (bw Tryz.f225) 0) adx:=bB (cx:=IU) (sh:=IG) (run:=fun n x=>M.vG x.1.1 n x.1.2.1) (bq:=MS) ak ady aW (aE (by kernel_rfl)) (fun _=>rfl) (fun m x=>by kernel_rfl) (af ⟨cm,fun _ _ _=>rfl⟩ (af ⟨bC,fun _ _ _=>rfl⟩ an)) false ae
theorem VC:aj (MB (M.uX)):=aL (cx:=IU) true ady Tryz.func225 (aH (bH 1 (by kernel_rfl) (bI (.mk (by kernel_rfl) atY)))) ⟨zs0,fun x=>x.1.1⟩ (fun x=>by kernel_rfl)
def iJ(y:Int⊕Unit){R:Type}(k:KT R):R:=match y with|.inl a0=>kk k Ex.ret zs1 ((a0,()),())|.inr a1=>kk k (Ex.exit 0) zs2 (((),()),())
def iK:List (cF K ((Int)⊕Unit)):=[⟨Ex.ret,zs1,fun x=>.inl x.1.1⟩,⟨(Ex.exit 0),zs2,fun x=>.inr (())⟩]
def adz:bo K:=bA D false 20 0 [0,1,5] [4] ⟨[.ah U.Import,.str,.int .i64],[]⟩ (fun x=>M.vH x.1.1 x.1.2.1 ae x.1.2.2.1) iJ
def VG(m:(List M.aM)->(List UInt8)->Option Int):az K:=cI 226 ⟨[.ah U.Import,.str],[]⟩ (fun x=>m x.1.1 x.1.2.1)
def IV:Cx K:=aT [] [] [(2,adz)]
theorem adA:aK IV:=aO ak _ an
theorem atZ:bp IV (bm (bw Tryz.f226) 0) adz:=bB (cx:=IV) (sh:=⟨[.ah U.Import,.str,.int .i64],[]⟩) (run:=fun n x=>M.vH x.1.1 x.1.2.1 n x.1.2.2.1) (bq:=iK) ak adA aW (aE (by kernel_rfl)) (fun _=>rfl) (fun m x=>by kernel_rfl) (af ⟨cm,fun _ _ _=>rfl⟩ (af ⟨bC,fun _ _ _=>rfl⟩ an)) false ae
theorem aot:aj (VG (M.Bg)):=aL (cx:=IV) true adA Tryz.func226 (aH (bH 1 (by kernel_rfl) (bI (.mk (by kernel_rfl) atZ)))) ⟨zs1,fun x=>x.1.1⟩ (fun x=>by kernel_rfl)
def Vy(m:Int->Option (Int×Int×Bool)):az K:={f:=318,sh:=zs1,R:=Int×Int×Bool,run:=fun x=>m x.1.1,dflt:=default,out:=fun r=>(Sh.enc D (.bT [.int .i64,.int .i64,.bool]) (r.1,(r.2.1,(r.2.2,()))),aU.encs D [] ())}
theorem aop:aj (Vy (M.MA)):=aL (cx:=dU) true dZ Tryz.func318 (aH (aE (by kernel_rfl))) ⟨Nw,fun x=>(x.1.1.1,x.1.1.2.1,x.1.1.2.2.1)⟩ (fun x=>by kernel_rfl)
def adB:bo K:=bA D false 20 0 [0,1,5] [4] ⟨[.ah U.Core,.str,.int .i64],[]⟩ (fun x=>M.vI x.1.1 x.1.2.1 ae x.1.2.2.1) iJ
def VH(m:(List M.aw)->(List UInt8)->Option Int):az K:=cI 228 ⟨[.ah U.Core,.str],[]⟩ (fun x=>m x.1.1 x.1.2.1)
def IW:Cx K:=aT [] [] [(2,adB)]
theorem adC:aK IW:=aO ak _ an
theorem at1:bp IW (bm (bw Tryz.f228) 0) adB:=bB (cx:=IW) (sh:=⟨[.ah U.Core,.str,.int .i64],[]⟩) (run:=fun n x=>M.vI x.1.1 x.1.2.1 n x.1.2.2.1) (bq:=iK) ak adC aW (aE (by kernel_rfl)) (fun _=>rfl) (fun m x=>by kernel_rfl) (af ⟨cm,fun _ _ _=>rfl⟩ (af ⟨bC,fun _ _ _=>rfl⟩ an)) false ae
theorem aou:aj (VH (M.Bh)):=aL (cx:=IW) true adC Tryz.func228 (aH (bH 1 (by kernel_rfl) (bI (.mk (by kernel_rfl) at1)))) ⟨zs1,fun x=>x.1.1⟩ (fun x=>by kernel_rfl)
def NA(m:Int->Option Bool):az K:=cB 264 zs1 (fun x=>m x.1.1)
theorem adD:aj (NA (M.NB)):=aL (cx:=dU) true dZ Tryz.func264 (aH (aE (by kernel_rfl))) ⟨zs0,fun x=>x.1.1⟩ (fun x=>by kernel_rfl)
def adE(y:(Int×Int×(List M.bc))⊕(M.aw×(List M.bc)×(List Int))){R:Type}(k:KT R):R:=match y with|.inl a0=>kk k Ex.ret aci (((),((),((),((),(a0.1,(a0.2.1,())))))),((),((),((),((),((),(a0.2.2,())))))))|.inr a1=>kk k (Ex.exit 0) acj (((),((),((),((),((),((),())))))),(a1.1,((),((),(a1.2.1,(a1.2.2,()))))))
def adF:List (cF K ((Int×Int×(List M.bc))⊕(M.aw×(List M.bc)×(List Int)))):=[⟨Ex.ret,aci,fun x=>.inl (x.1.2.2.2.2.1,x.1.2.2.2.2.2.1,x.2.2.2.2.2.2.1)⟩,⟨(Ex.exit 0),acj,fun x=>.inr ((x.2.1,x.2.2.2.2.1,x.2.2.2.2.2.1))⟩]
def adG:bo K:=bA D false 145 3 [1,5,6,7] [1,5,6,2,3,4] acr (fun x=>M.oJ x.2.1 ae x.1.2.2.2.1 x.2.2.2.2.1 x.2.2.2.2.2.1) adE
def adH(m:M.aw->Option (Int×Int×(List M.bc))):az K:={f:=229,sh:=Bd,R:=Int×Int×(List M.bc),run:=fun x=>m x.1.1,dflt:=default,out:=fun r=>(Sh.enc D (.bT [.own 0,.int .i64,.int .i64]) ((),(r.1,(r.2.1,()))),aU.encs D [.arr U.CodeBlock] (r.2.2,()))}
def IX:Cx K:={dc with mode:=cV .plain [(264,.plain)],eJ:=[[some U.CodeBlock],[],[]],cut:=true,call:=callOf D [NA M.NB],loop:=cP [(4,adG)]}
theorem adI:aK IX:=aO ak _ (af adD an)
theorem at6:bp IX (bm (bw Tryz.f229) 0) adG:=bB (cx:=IX) (sh:=acr) (run:=fun n x=>M.oJ x.2.1 n x.1.2.2.2.1 x.2.2.2.2.1 x.2.2.2.2.2.1) (bq:=adF) ak adI aW (aE (by kernel_rfl)) (fun _=>rfl) (fun m x=>by kernel_rfl) (af ⟨cm,fun _ _ _=>rfl⟩ (af ⟨bC,fun _ _ _=>rfl⟩ an)) false ae
theorem at7:aj (adH (M.C9)):=aL (cx:=IX) false adI Tryz.func229 (aH (bH 1 (by kernel_rfl) (bI (.mk (by kernel_rfl) at6)))) ⟨⟨[.bT [.own 0,.int .i64,.int .i64]],[.arr U.CodeBlock]⟩,fun x=>(x.1.1.2.1,x.1.1.2.2.1,x.2.1)⟩ (fun x=>by kernel_rfl)
def NC(m:(List Int)->Option ((List Int))):az K:={f:=265,sh:=rT,R:=(List Int),run:=fun x=>m x.1.1,dflt:=default,out:=fun r=>(Sh.enc D (.own 0) (),aU.encs D [.arr U.i64] (r,()))}
def adJ:Cx K:={dc with mode:=cV .plain [],eJ:=[[some U.i64]],call:=callOf D [],loop:=cP []}
theorem aua:aK adJ:=aO ak _ an
theorem adK:aj (NC (M.qi)):=aL (cx:=adJ) false aua Tryz.func265 (aH (aE (by kernel_rfl))) ⟨MI,fun x=>x.2.1⟩ (fun x=>by kernel_rfl)
def adL(m:Int->(List M.aM)->(List M.aw)->(List UInt8)->Int->Int->Bool->(List M.aJ)->Int->Bool->(List M.bc)->(List Int)->Option (M.cZ×Int×(List M.aM)×(List M.aw)×(List UInt8)×Int×Int×Bool×(List M.aJ)×Int×Bool×(List M.bc)×(List Int))):az K:={f:=230,sh:=⟨[.ptr 0 0],[.box [.int .i64,.ah U.Import,.ah U.Core,.str,.int .i64,.int .i64,.bool,.ah U.Ins,.own 1,.own 2,.int .i64,.bool],.arr U.CodeBlock,.arr U.i64]⟩,R:=M.cZ×Int×(List M.aM)×(List M.aw)×(List UInt8)×Int×Int×Bool×(List M.aJ)×Int×Bool×(List M.bc)×(List Int),run:=fun x=>m x.2.1.1 x.2.1.2.1 x.2.1.2.2.1 x.2.1.2.2.2.1 x.2.1.2.2.2.2.1 x.2.1.2.2.2.2.2.1 x.2.1.2.2.2.2.2.2.1 x.2.1.2.2.2.2.2.2.2.1 x.2.1.2.2.2.2.2.2.2.2.2.2.1 x.2.1.2.2.2.2.2.2.2.2.2.2.2.1 x.2.2.1 x.2.2.2.1,dflt:=default,out:=fun r=>(Sh.enc D (.el U.gI) r.1,aU.encs D [.box [.int .i64,.ah U.Import,.ah U.Core,.str,.int .i64,.int .i64,.bool,.ah U.Ins,.own 3,.own 4,.int .i64,.bool],.dead,.dead,.arr U.CodeBlock,.arr U.i64] ((r.2.1,(r.2.2.1,(r.2.2.2.1,(r.2.2.2.2.1,(r.2.2.2.2.2.1,(r.2.2.2.2.2.2.1,(r.2.2.2.2.2.2.2.1,(r.2.2.2.2.2.2.2.2.1,((),((),(r.2.2.2.2.2.2.2.2.2.1,(r.2.2.2.2.2.2.2.2.2.2.1,())))))))))))),((),((),(r.2.2.2.2.2.2.2.2.2.2.2.1,(r.2.2.2.2.2.2.2.2.2.2.2.2,()))))))}
def adM:Cx K:={dc with mode:=cV .plain [(265,.fresh)],mv:=true,call:=callOf D [NC M.qi],loop:=cP []}
theorem aub:aK adM:=aO ak _ (af adK an)
theorem auc:aj (adL (M.Da)):=aL (cx:=adM) true aub Tryz.func230 (aH (aE (by kernel_rfl))) ⟨⟨[.el U.gI],[.box [.int .i64,.ah U.Import,.ah U.Core,.str,.int .i64,.int .i64,.bool,.ah U.Ins,.own 3,.own 4,.int .i64,.bool],.dead,.dead,.arr U.CodeBlock,.arr U.i64]⟩,fun x=>(x.1.1,x.2.1.1,x.2.1.2.1,x.2.1.2.2.1,x.2.1.2.2.2.1,x.2.1.2.2.2.2.1,x.2.1.2.2.2.2.2.1,x.2.1.2.2.2.2.2.2.1,x.2.1.2.2.2.2.2.2.2.1,x.2.1.2.2.2.2.2.2.2.2.2.2.1,x.2.1.2.2.2.2.2.2.2.2.2.2.2.1,x.2.2.2.2.1,x.2.2.2.2.2.1)⟩ (fun x=>by kernel_rfl)
def Db(m:Bool->Option Int):az K:=cI 232 zs0 (fun x=>m x.1.1)
theorem IY:aj (Db (M.kP)):=aL (cx:=dU) true dZ Tryz.func232 (aH (aE (by kernel_rfl))) ⟨zs1,fun x=>x.1.1⟩ (fun x=>by kernel_rfl)
def adN(m:Bool->Int->(List M.aM)->(List M.aw)->(List UInt8)->Int->Int->Bool->(List M.aJ)->Int->Bool->(List M.bc)->(List Int)->Option (Bool×Int×(List M.aM)×(List M.aw)×(List UInt8)×Int×Int×Bool×(List M.aJ)×Int×Bool×(List M.bc)×(List Int))):az K:={f:=266,sh:=⟨[.ptr 0 0,.bool],[.box [.int .i64,.ah U.Import,.ah U.Core,.str,.int .i64,.int .i64,.bool,.ah U.Ins,.own 1,.own 2,.int .i64,.bool],.arr U.CodeBlock,.arr U.i64]⟩,R:=Bool×Int×(List M.aM)×(List M.aw)×(List UInt8)×Int×Int×Bool×(List M.aJ)×Int×Bool×(List M.bc)×(List Int),run:=fun x=>m x.1.2.1 x.2.1.1 x.2.1.2.1 x.2.1.2.2.1 x.2.1.2.2.2.1 x.2.1.2.2.2.2.1 x.2.1.2.2.2.2.2.1 x.2.1.2.2.2.2.2.2.1 x.2.1.2.2.2.2.2.2.2.1 x.2.1.2.2.2.2.2.2.2.2.2.2.1 x.2.1.2.2.2.2.2.2.2.2.2.2.2.1 x.2.2.1 x.2.2.2.1,dflt:=default,out:=fun r=>(Sh.enc D (.bool) r.1,aU.encs D [.box [.int .i64,.ah U.Import,.ah U.Core,.str,.int .i64,.int .i64,.bool,.ah U.Ins,.own 3,.own 4,.int .i64,.bool],.dead,.dead,.arr U.CodeBlock,.arr U.i64] ((r.2.1,(r.2.2.1,(r.2.2.2.1,(r.2.2.2.2.1,(r.2.2.2.2.2.1,(r.2.2.2.2.2.2.1,(r.2.2.2.2.2.2.2.1,(r.2.2.2.2.2.2.2.2.1,((),((),(r.2.2.2.2.2.2.2.2.2.1,(r.2.2.2.2.2.2.2.2.2.2.1,())))))))))))),((),((),(r.2.2.2.2.2.2.2.2.2.2.2.1,(r.2.2.2.2.2.2.2.2.2.2.2.2,()))))))}
def adO:Cx K:={dc with mode:=cV .plain [(232,.plain)],cut:=true,mv:=true,call:=callOf D [Db M.kP],loop:=cP []}
theorem aud:aK adO:=aO ak _ (af IY an)
theorem aue:aj (adN (M.Dc)):=aL (cx:=adO) true aud Tryz.func266 (aH (aE (by kernel_rfl))) ⟨⟨[.bool],[.box [.int .i64,.ah U.Import,.ah U.Core,.str,.int .i64,.int .i64,.bool,.ah U.Ins,.own 3,.own 4,.int .i64,.bool],.dead,.dead,.arr U.CodeBlock,.arr U.i64]⟩,fun x=>(x.1.1,x.2.1.1,x.2.1.2.1,x.2.1.2.2.1,x.2.1.2.2.2.1,x.2.1.2.2.2.2.1,x.2.1.2.2.2.2.2.1,x.2.1.2.2.2.2.2.2.1,x.2.1.2.2.2.2.2.2.2.1,x.2.1.2.2.2.2.2.2.2.2.2.2.1,x.2.1.2.2.2.2.2.2.2.2.2.2.2.1,x.2.2.2.2.1,x.2.2.2.2.2.1)⟩ (fun x=>by kernel_rfl)
def adP(m:M.aR->M.aw->M.aJ->Int->Option Bool):az K:=cB 267 ⟨[.el U.Module,.el U.Core,.el U.Ins,.int .i64],[]⟩ (fun x=>m x.1.1 x.1.2.1 x.1.2.2.1 x.1.2.2.2.1)
theorem auf:aj (adP (M.Df)):=aL (cx:=dU) true dZ Tryz.func267 (aH (aE (by kernel_rfl))) ⟨zs0,fun x=>x.1.1⟩ (fun x=>by kernel_rfl)
def adQ(m:M.aR->M.aJ->Option (Int×Int)):az K:={f:=268,sh:=⟨[.el U.Module,.el U.Ins],[]⟩,R:=Int×Int,run:=fun x=>m x.1.1 x.1.2.1,dflt:=default,out:=fun r=>(Sh.enc D (.bT [.int .i64,.int .i64]) (r.1,(r.2,())),aU.encs D [] ())}
def ND:Cx K:=aT [(232,.plain)] [Db M.kP] []
theorem adR:aK ND:=aO ak _ (af IY an)
theorem aug:aj (adQ (M.Dh)):=aL (cx:=ND) true adR Tryz.func268 (aH (aE (by kernel_rfl))) ⟨Nx,fun x=>(x.1.1.1,x.1.1.2.1)⟩ (fun x=>by kernel_rfl)
def adS(m:M.eE->Option Int):az K:=cI 269 ⟨[.rp U.mm 0],[]⟩ (fun x=>m x.1.1)
theorem auh:aj (adS (M.yv)):=aL (cx:=dU) true dZ Tryz.func269 (aH (aE (by kernel_rfl))) ⟨zs1,fun x=>x.1.1⟩ (fun x=>by kernel_rfl)
def adT(m:M.eE->Int->Option Int):az K:=cI 270 ⟨[.rp U.mm 0,.int .i64],[]⟩ (fun x=>m x.1.1 x.1.2.1)
theorem aui:aj (adT (M.sO)):=aL (cx:=ND) true adR Tryz.func270 (aH (aE (by kernel_rfl))) ⟨zs1,fun x=>x.1.1⟩ (fun x=>by kernel_rfl)
def adU:bo K:=bA D false 26 0 [0,1,5] [4] acs (fun x=>M.vJ x.1.1 x.1.2.1 ae x.1.2.2.1) iJ
def adV(m:M.eE->Int->Option Int):az K:=cI 271 ⟨[.rp U.mm 0,.int .i64],[]⟩ (fun x=>m x.1.1 x.1.2.1)
def IZ:Cx K:=aT [] [] [(2,adU)]
theorem adW:aK IZ:=aO ak _ an
theorem auj:bp IZ (bm (bw Tryz.f271) 0) adU:=bB (cx:=IZ) (sh:=acs) (run:=fun n x=>M.vJ x.1.1 x.1.2.1 n x.1.2.2.1) (bq:=iK) ak adW aW (aE (by kernel_rfl)) (fun _=>rfl) (fun m x=>by kernel_rfl) (af ⟨cm,fun _ _ _=>rfl⟩ (af ⟨bC,fun _ _ _=>rfl⟩ an)) false ae
theorem auk:aj (adV (M.Di)):=aL (cx:=IZ) true adW Tryz.func271 (aH (bH 1 (by kernel_rfl) (bI (.mk (by kernel_rfl) auj)))) ⟨zs1,fun x=>x.1.1⟩ (fun x=>by kernel_rfl)
def adX(m:Int->Option Bool):az K:=cB 272 zs1 (fun x=>m x.1.1)
theorem aul:aj (adX (M.adY)):=aL (cx:=dU) true dZ Tryz.func272 (aH (aE (by kernel_rfl))) ⟨zs0,fun x=>x.1.1⟩ (fun x=>by kernel_rfl)
def adZ(m:Int->Int->(List M.aM)->(List M.aw)->(List UInt8)->Int->Int->Bool->(List M.aJ)->Int->Bool->(List M.bc)->(List Int)->Option (Int×Int×(List M.aM)×(List M.aw)×(List UInt8)×Int×Int×Bool×(List M.aJ)×Int×Bool×(List M.bc)×(List Int))):az K:={f:=231,sh:=⟨[.ptr 0 0,.int .i64],[.box [.int .i64,.ah U.Import,.ah U.Core,.str,.int .i64,.int .i64,.bool,.ah U.Ins,.own 1,.own 2,.int .i64,.bool],.arr U.CodeBlock,.arr U.i64]⟩,R:=Int×Int×(List M.aM)×(List M.aw)×(List UInt8)×Int×Int×Bool×(List M.aJ)×Int×Bool×(List M.bc)×(List Int),run:=fun x=>m x.1.2.1 x.2.1.1 x.2.1.2.1 x.2.1.2.2.1 x.2.1.2.2.2.1 x.2.1.2.2.2.2.1 x.2.1.2.2.2.2.2.1 x.2.1.2.2.2.2.2.2.1 x.2.1.2.2.2.2.2.2.2.1 x.2.1.2.2.2.2.2.2.2.2.2.2.1 x.2.1.2.2.2.2.2.2.2.2.2.2.2.1 x.2.2.1 x.2.2.2.1,dflt:=default,out:=fun r=>(Sh.enc D (.int .i64) r.1,aU.encs D [.box [.int .i64,.ah U.Import,.ah U.Core,.str,.int .i64,.int .i64,.bool,.ah U.Ins,.own 3,.own 4,.int .i64,.bool],.dead,.dead,.arr U.CodeBlock,.arr U.i64] ((r.2.1,(r.2.2.1,(r.2.2.2.1,(r.2.2.2.2.1,(r.2.2.2.2.2.1,(r.2.2.2.2.2.2.1,(r.2.2.2.2.2.2.2.1,(r.2.2.2.2.2.2.2.2.1,((),((),(r.2.2.2.2.2.2.2.2.2.1,(r.2.2.2.2.2.2.2.2.2.2.1,())))))))))))),((),((),(r.2.2.2.2.2.2.2.2.2.2.2.1,(r.2.2.2.2.2.2.2.2.2.2.2.2,()))))))}
def ad1:Cx K:={dc with mode:=cV .plain [(266,.m6),(267,.plain),(268,.plain),(269,.plain),(270,.plain),(232,.plain),(264,.plain),(271,.plain),(265,.fresh),(272,.plain)],mv:=true,call:=callOf D [adN M.Dc,adP M.Df,adQ M.Dh,adS M.yv,adT M.sO,Db M.kP,NA M.NB,adV M.Di,NC M.qi,adX M.adY],loop:=cP []}
theorem aum:aK ad1:=aO ak _ (af aue (af auf (af aug (af auh (af aui (af IY (af adD (af auk (af adK (af aul an))))))))))
theorem aun:aj (adZ (M.Dj)):=aL (cx:=ad1) true aum Tryz.func231 (aH (aE (by kernel_rfl))) ⟨⟨[.int .i64],[.box [.int .i64,.ah U.Import,.ah U.Core,.str,.int .i64,.int .i64,.bool,.ah U.Ins,.own 3,.own 4,.int .i64,.bool],.dead,.dead,.arr U.CodeBlock,.arr U.i64]⟩,fun x=>(x.1.1,x.2.1.1,x.2.1.2.1,x.2.1.2.2.1,x.2.1.2.2.2.1,x.2.1.2.2.2.2.1,x.2.1.2.2.2.2.2.1,x.2.1.2.2.2.2.2.2.1,x.2.1.2.2.2.2.2.2.2.1,x.2.1.2.2.2.2.2.2.2.2.2.2.1,x.2.1.2.2.2.2.2.2.2.2.2.2.2.1,x.2.2.2.2.1,x.2.2.2.2.2.1)⟩ (fun x=>by kernel_rfl)
def auo(y:(Int×Int×(List M.cZ))⊕(M.aw×Int×(List M.aM)×(List M.aw)×(List UInt8)×Int×Int×Bool×(List M.aJ)×Int×Bool×(List M.cZ)×(List M.bc)×(List Int))){R:Type}(k:KT R):R:=match y with|.inl a0=>kk k Ex.ret acu (((),((),((),((),((),(a0.1,(a0.2.1,()))))))),((),((),((),((),((),((),(a0.2.2,((),((),()))))))))))|.inr a1=>kk k (Ex.exit 0) acv (((),((),((),((),((),((),((),()))))))),(a1.1,((a1.2.1,(a1.2.2.1,(a1.2.2.2.1,(a1.2.2.2.2.1,(a1.2.2.2.2.2.1,(a1.2.2.2.2.2.2.1,(a1.2.2.2.2.2.2.2.1,(a1.2.2.2.2.2.2.2.2.1,((),((),(a1.2.2.2.2.2.2.2.2.2.1,(a1.2.2.2.2.2.2.2.2.2.2.1,())))))))))))),((),((),((),(a1.2.2.2.2.2.2.2.2.2.2.2.1,(a1.2.2.2.2.2.2.2.2.2.2.2.2.1,(a1.2.2.2.2.2.2.2.2.2.2.2.2.2,())))))))))
def aup:List (cF K ((Int×Int×(List M.cZ))⊕(M.aw×Int×(List M.aM)×(List M.aw)×(List UInt8)×Int×Int×Bool×(List M.aJ)×Int×Bool×(List M.cZ)×(List M.bc)×(List Int)))):=[⟨Ex.ret,acu,fun x=>.inl (x.1.2.2.2.2.2.1,x.1.2.2.2.2.2.2.1,x.2.2.2.2.2.2.2.1)⟩,⟨(Ex.exit 0),acv,fun x=>.inr ((x.2.1,x.2.2.1.1,x.2.2.1.2.1,x.2.2.1.2.2.1,x.2.2.1.2.2.2.1,x.2.2.1.2.2.2.2.1,x.2.2.1.2.2.2.2.2.1,x.2.2.1.2.2.2.2.2.2.1,x.2.2.1.2.2.2.2.2.2.2.1,x.2.2.1.2.2.2.2.2.2.2.2.2.2.1,x.2.2.1.2.2.2.2.2.2.2.2.2.2.2.1,x.2.2.2.2.2.2.1,x.2.2.2.2.2.2.2.1,x.2.2.2.2.2.2.2.2.1))⟩]
def ad2:bo K:=bA D false 82 5 [8,12,13,14] [8,12,13,4,5,6,7] acw (fun x=>M.sP x.2.1 ae x.1.2.2.2.1 x.2.2.1.1 x.2.2.1.2.1 x.2.2.1.2.2.1 x.2.2.1.2.2.2.1 x.2.2.1.2.2.2.2.1 x.2.2.1.2.2.2.2.2.1 x.2.2.1.2.2.2.2.2.2.1 x.2.2.1.2.2.2.2.2.2.2.1 x.2.2.1.2.2.2.2.2.2.2.2.2.2.1 x.2.2.1.2.2.2.2.2.2.2.2.2.2.2.1 x.2.2.2.2.2.2.1 x.2.2.2.2.2.2.2.1 x.2.2.2.2.2.2.2.2.1) auo
def VP(m:M.aR->Int->Option ((List M.cZ)×Int×Int)):az K:={f:=195,sh:=Nv,R:=(List M.cZ)×Int×Int,run:=fun x=>m x.1.1 x.1.2.1,dflt:=default,out:=fun r=>(Sh.enc D (.bT [.any,.ah U.gI,.int .i64,.int .i64]) ((),(r.1,(r.2.1,(r.2.2,())))),aU.encs D [] ())}
def I0:Cx K:={dc with mode:=cV .plain [(229,.fresh),(230,.m6),(231,.m6),(232,.plain)],I1:=[true,false,false,false],call:=callOf D [adH M.C9,adL M.Da,adZ M.Dj,Db M.kP],loop:=cP [(8,ad2)]}
theorem ad3:aK I0:=aO ak _ (af at7 (af auc (af aun (af IY an))))
theorem auq:bp I0 (bm (bw Tryz.f195) 0) ad2:=bB (cx:=I0) (sh:=acw) (run:=fun n x=>M.sP x.2.1 n x.1.2.2.2.1 x.2.2.1.1 x.2.2.1.2.1 x.2.2.1.2.2.1 x.2.2.1.2.2.2.1 x.2.2.1.2.2.2.2.1 x.2.2.1.2.2.2.2.2.1 x.2.2.1.2.2.2.2.2.2.1 x.2.2.1.2.2.2.2.2.2.2.1 x.2.2.1.2.2.2.2.2.2.2.2.2.2.1 x.2.2.1.2.2.2.2.2.2.2.2.2.2.2.1 x.2.2.2.2.2.2.1 x.2.2.2.2.2.2.2.1 x.2.2.2.2.2.2.2.2.1) (bq:=aup) ak ad3 aW (aE (by kernel_rfl)) (fun _=>rfl) (fun m x=>by kernel_rfl) (af ⟨cm,fun _ _ _=>rfl⟩ (af ⟨bC,fun _ _ _=>rfl⟩ an)) false ae
theorem aoy:aj (VP (M.Bj)):=aL (cx:=I0) true ad3 Tryz.func195 (aH (bH 1 (by kernel_rfl) (bI (.mk (by kernel_rfl) auq)))) ⟨⟨[.bT [.any,.ah U.gI,.int .i64,.int .i64]],[]⟩,fun x=>(x.1.1.2.1,x.1.1.2.2.1,x.1.1.2.2.2.1)⟩ (fun x=>by kernel_rfl)
def ad4(m:Int->Option (Int×Int×Bool)):az K:={f:=334,sh:=zs1,R:=Int×Int×Bool,run:=fun x=>m x.1.1,dflt:=default,out:=fun r=>(Sh.enc D (.bT [.int .i64,.int .i64,.bool]) (r.1,(r.2.1,(r.2.2,()))),aU.encs D [] ())}
theorem aur:aj (ad4 (M.ad5)):=aL (cx:=dU) true dZ Tryz.func334 (aH (aE (by kernel_rfl))) ⟨Nw,fun x=>(x.1.1.1,x.1.1.2.1,x.1.1.2.2.1)⟩ (fun x=>by kernel_rfl)
def Xo(m:Int->Option (Int×Int×Bool)):az K:={f:=291,sh:=zs1,R:=Int×Int×Bool,run:=fun x=>m x.1.1,dflt:=default,out:=fun r=>(Sh.enc D (.bT [.int .i64,.int .i64,.bool]) (r.1,(r.2.1,(r.2.2,()))),aU.encs D [] ())}
def ad6:Cx K:=aT [(334,.plain)] [ad4 M.ad5] []
theorem aus:aK ad6:=aO ak _ (af aur an)
theorem apx:aj (Xo (M.Bz)):=aL (cx:=ad6) true aus Tryz.func291 (aH (aE (by kernel_rfl))) ⟨Nw,fun x=>(x.1.1.1,x.1.1.2.1,x.1.1.2.2.1)⟩ (fun x=>by kernel_rfl)
def X3(m:Int->Option Bool):az K:=cB 292 ⟨[.int .u8],[]⟩ (fun x=>m x.1.1)
theorem apZ:aj (X3 (M.X4)):=aL (cx:=dU) true dZ Tryz.func292 (aH (aE (by kernel_rfl))) ⟨zs0,fun x=>x.1.1⟩ (fun x=>by kernel_rfl)
def X5(m:Int->Option Bool):az K:=cB 293 ⟨[.int .u8],[]⟩ (fun x=>m x.1.1)
theorem ap0:aj (X5 (M.X6)):=aL (cx:=dU) true dZ Tryz.func293 (aH (aE (by kernel_rfl))) ⟨zs0,fun x=>x.1.1⟩ (fun x=>by kernel_rfl)
def X7(m:(List UInt8)->Option Int):az K:=cI 295 ib (fun x=>m x.1.1)
theorem ap2:aj (X7 (M.X8)):=aL (cx:=dU) true dZ Tryz.func295 (aH (aE (by kernel_rfl))) ⟨zs1,fun x=>x.1.1⟩ (fun x=>by kernel_rfl)
def MW(m:(List M.aw)->Option Int):az K:=cI 213 ⟨[.ah U.Core],[]⟩ (fun x=>m x.1.1)
theorem Yp:aj (MW (M.MX)):=aL (cx:=dU) true dZ Tryz.func213 (aH (aE (by kernel_rfl))) ⟨zs1,fun x=>x.1.1⟩ (fun x=>by kernel_rfl)
def NF(m:Int->Option Bool):az K:=cB 296 zs1 (fun x=>m x.1.1)
theorem ad7:aj (NF (M.NG)):=aL (cx:=dU) true dZ Tryz.func296 (aH (aE (by kernel_rfl))) ⟨zs0,fun x=>x.1.1⟩ (fun x=>by kernel_rfl)
def ad8:bo K:=bA D false 141 3 [1,5,6,15,16,17] [1,5,6,2,3,4] acx (fun x=>M.oK x.1.2.2.2.1 x.1.2.2.2.2.1 x.2.1 ae x.1.2.2.2.2.2.1 x.2.2.2.2.1 x.2.2.2.2.2.1) adE
def NH(m:(List M.aJ)->Option Int):az K:=cI 256 ⟨[.ah U.Ins],[]⟩ (fun x=>m x.1.1)
theorem ad9:aj (NH (M.NI)):=aL (cx:=dU) true dZ Tryz.func256 (aH (aE (by kernel_rfl))) ⟨zs1,fun x=>x.1.1⟩ (fun x=>by kernel_rfl)
def aea(m:M.aw->Option ((List M.bc)×Int×Int)):az K:={f:=252,sh:=Bd,R:=(List M.bc)×Int×Int,run:=fun x=>m x.1.1,dflt:=default,out:=fun r=>(Sh.enc D (.bT [.ah U.CodeBlock,.int .i64,.int .i64]) (r.1,(r.2.1,(r.2.2,()))),aU.encs D [] ())}
def I2:Cx K:={dc with mode:=cV .plain [(296,.plain),(256,.plain)],cut:=true,call:=callOf D [NF M.NG,NH M.NI],loop:=cP [(3,ad8)]}
theorem aeb:aK I2:=aO ak _ (af ad7 (af ad9 an))
theorem aut:bp I2 (bm (bw Tryz.f252) 0) ad8:=bB (cx:=I2) (sh:=acx) (run:=fun n x=>M.oK x.1.2.2.2.1 x.1.2.2.2.2.1 x.2.1 n x.1.2.2.2.2.2.1 x.2.2.2.2.1 x.2.2.2.2.2.1) (bq:=adF) ak aeb aW (aE (by kernel_rfl)) (fun _=>rfl) (fun m x=>by kernel_rfl) (af ⟨cm,fun _ _ _=>rfl⟩ (af ⟨bC,fun _ _ _=>rfl⟩ an)) false ae
theorem auu:aj (aea (M.Dk)):=aL (cx:=I2) true aeb Tryz.func252 (aH (bH 1 (by kernel_rfl) (bI (.mk (by kernel_rfl) aut)))) ⟨⟨[.bT [.ah U.CodeBlock,.int .i64,.int .i64]],[]⟩,fun x=>(x.1.1.1,x.1.1.2.1,x.1.1.2.2.1)⟩ (fun x=>by kernel_rfl)
def aec(m:Int->(List M.aM)->(List M.aw)->(List UInt8)->Int->Int->Bool->(List M.aJ)->(List M.bc)->Int->Int->Bool->(List Int)->(List Int)->Option (Bool×Int×Int×(List M.aM)×(List M.aw)×(List UInt8)×Int×Int×Bool×(List M.aJ)×(List M.bc)×Int×Int×Bool×(List Int)×(List Int)×(List Int))):az K:={f:=253,sh:=⟨[.ptr 0 0],[.box [.int .i64,.ah U.Import,.ah U.Core,.str,.int .i64,.int .i64,.bool,.ah U.Ins,.ah U.CodeBlock,.int .i64,.own 1,.own 2,.int .i64,.bool],.arr U.i64,.arr U.i64]⟩,R:=Bool×Int×Int×(List M.aM)×(List M.aw)×(List UInt8)×Int×Int×Bool×(List M.aJ)×(List M.bc)×Int×Int×Bool×(List Int)×(List Int)×(List Int),run:=fun x=>m x.2.1.1 x.2.1.2.1 x.2.1.2.2.1 x.2.1.2.2.2.1 x.2.1.2.2.2.2.1 x.2.1.2.2.2.2.2.1 x.2.1.2.2.2.2.2.2.1 x.2.1.2.2.2.2.2.2.2.1 x.2.1.2.2.2.2.2.2.2.2.1 x.2.1.2.2.2.2.2.2.2.2.2.1 x.2.1.2.2.2.2.2.2.2.2.2.2.2.2.1 x.2.1.2.2.2.2.2.2.2.2.2.2.2.2.2.1 x.2.2.1 x.2.2.2.1,dflt:=default,out:=fun r=>(Sh.enc D (.agg [.bool,.int .i64,.own 3]) (r.1,(r.2.1,((),()))),aU.encs D [.box [.int .i64,.ah U.Import,.ah U.Core,.str,.int .i64,.int .i64,.bool,.ah U.Ins,.ah U.CodeBlock,.int .i64,.own 4,.own 5,.int .i64,.bool],.dead,.dead,.arr U.i64,.arr U.i64,.arr U.i64] ((r.2.2.1,(r.2.2.2.1,(r.2.2.2.2.1,(r.2.2.2.2.2.1,(r.2.2.2.2.2.2.1,(r.2.2.2.2.2.2.2.1,(r.2.2.2.2.2.2.2.2.1,(r.2.2.2.2.2.2.2.2.2.1,(r.2.2.2.2.2.2.2.2.2.2.1,(r.2.2.2.2.2.2.2.2.2.2.2.1,((),((),(r.2.2.2.2.2.2.2.2.2.2.2.2.1,(r.2.2.2.2.2.2.2.2.2.2.2.2.2.1,())))))))))))))),((),((),(r.2.2.2.2.2.2.2.2.2.2.2.2.2.2.1,(r.2.2.2.2.2.2.2.2.2.2.2.2.2.2.2.1,(r.2.2.2.2.2.2.2.2.2.2.2.2.2.2.2.2,())))))))}
def aed:Cx K:={dc with mode:=cV .plain [(297,.fresh)],eJ:=[[none,none,some U.i64]],deep:=fun c=>cQ (D.cells c (K.zero c)),mv:=true,call:=callOf D [NJ M.sQ],loop:=cP []}
theorem auv:aK aed:=aO ak _ (af auw an)
theorem auy:aj (aec (M.Dl)):=aL (cx:=aed) false auv Tryz.func253 (aH (aE (by kernel_rfl))) ⟨⟨[.agg [.bool,.int .i64,.own 3]],[.box [.int .i64,.ah U.Import,.ah U.Core,.str,.int .i64,.int .i64,.bool,.ah U.Ins,.ah U.CodeBlock,.int .i64,.own 4,.own 5,.int .i64,.bool],.dead,.dead,.arr U.i64,.arr U.i64,.arr U.i64]⟩,fun x=>(x.1.1.1,x.1.1.2.1,x.2.1.1,x.2.1.2.1,x.2.1.2.2.1,x.2.1.2.2.2.1,x.2.1.2.2.2.2.1,x.2.1.2.2.2.2.2.1,x.2.1.2.2.2.2.2.2.1,x.2.1.2.2.2.2.2.2.2.1,x.2.1.2.2.2.2.2.2.2.2.1,x.2.1.2.2.2.2.2.2.2.2.2.1,x.2.1.2.2.2.2.2.2.2.2.2.2.2.2.1,x.2.1.2.2.2.2.2.2.2.2.2.2.2.2.2.1,x.2.2.2.2.1,x.2.2.2.2.2.1,x.2.2.2.2.2.2.1)⟩ (fun x=>by kernel_rfl)
def Dm(m:Bool->Option Int):az K:=cI 255 zs0 (fun x=>m x.1.1)
theorem I3:aj (Dm (M.lJ)):=aL (cx:=dU) true dZ Tryz.func255 (aH (aE (by kernel_rfl))) ⟨zs1,fun x=>x.1.1⟩ (fun x=>by kernel_rfl)
def NK(m:M.eA->Option Int):az K:=cI 301 ⟨[.rp U.checker 0],[]⟩ (fun x=>m x.1.1)
theorem aee:aj (NK (M.vK)):=aL (cx:=dU) true dZ Tryz.func301 (aH (aE (by kernel_rfl))) ⟨zs1,fun x=>x.1.1⟩ (fun x=>by kernel_rfl)
def aef(m:M.aJ->Int->(List M.aM)->(List M.aw)->(List UInt8)->Int->Int->Bool->(List M.aJ)->(List M.bc)->Int->Int->Bool->(List Int)->(List Int)->Option (Int×Int×(List M.aM)×(List M.aw)×(List UInt8)×Int×Int×Bool×(List M.aJ)×(List M.bc)×Int×Int×Bool×(List Int)×(List Int))):az K:={f:=298,sh:=acy,R:=Int×Int×(List M.aM)×(List M.aw)×(List UInt8)×Int×Int×Bool×(List M.aJ)×(List M.bc)×Int×Int×Bool×(List Int)×(List Int),run:=fun x=>m x.1.2.1 x.2.1.1 x.2.1.2.1 x.2.1.2.2.1 x.2.1.2.2.2.1 x.2.1.2.2.2.2.1 x.2.1.2.2.2.2.2.1 x.2.1.2.2.2.2.2.2.1 x.2.1.2.2.2.2.2.2.2.1 x.2.1.2.2.2.2.2.2.2.2.1 x.2.1.2.2.2.2.2.2.2.2.2.1 x.2.1.2.2.2.2.2.2.2.2.2.2.2.2.1 x.2.1.2.2.2.2.2.2.2.2.2.2.2.2.2.1 x.2.2.1 x.2.2.2.1,dflt:=default,out:=fun r=>(Sh.enc D (.int .i64) r.1,aU.encs D [.box [.int .i64,.ah U.Import,.ah U.Core,.str,.int .i64,.int .i64,.bool,.ah U.Ins,.ah U.CodeBlock,.int .i64,.own 3,.own 4,.int .i64,.bool],.dead,.dead,.arr U.i64,.arr U.i64] ((r.2.1,(r.2.2.1,(r.2.2.2.1,(r.2.2.2.2.1,(r.2.2.2.2.2.1,(r.2.2.2.2.2.2.1,(r.2.2.2.2.2.2.2.1,(r.2.2.2.2.2.2.2.2.1,(r.2.2.2.2.2.2.2.2.2.1,(r.2.2.2.2.2.2.2.2.2.2.1,((),((),(r.2.2.2.2.2.2.2.2.2.2.2.1,(r.2.2.2.2.2.2.2.2.2.2.2.2.1,())))))))))))))),((),((),(r.2.2.2.2.2.2.2.2.2.2.2.2.2.1,(r.2.2.2.2.2.2.2.2.2.2.2.2.2.2,()))))))}
def aeg:Cx K:={dc with mode:=cV .plain [(255,.plain),(301,.plain)],cut:=true,mv:=true,call:=callOf D [Dm M.lJ,NK M.vK],loop:=cP []}
theorem auz:aK aeg:=aO ak _ (af I3 (af aee an))
theorem auA:aj (aef (M.Dn)):=aL (cx:=aeg) true auz Tryz.func298 (aH (aE (by kernel_rfl))) ⟨acz,fun x=>(x.1.1,x.2.1.1,x.2.1.2.1,x.2.1.2.2.1,x.2.1.2.2.2.1,x.2.1.2.2.2.2.1,x.2.1.2.2.2.2.2.1,x.2.1.2.2.2.2.2.2.1,x.2.1.2.2.2.2.2.2.2.1,x.2.1.2.2.2.2.2.2.2.2.1,x.2.1.2.2.2.2.2.2.2.2.2.1,x.2.1.2.2.2.2.2.2.2.2.2.2.2.2.1,x.2.1.2.2.2.2.2.2.2.2.2.2.2.2.2.1,x.2.2.2.2.1,x.2.2.2.2.2.1)⟩ (fun x=>by kernel_rfl)
def aeh(m:(List M.aM)->Option Int):az K:=cI 335 ⟨[.ah U.Import],[]⟩ (fun x=>m x.1.1)
theorem auB:aj (aeh (M.aei)):=aL (cx:=dU) true dZ Tryz.func335 (aH (aE (by kernel_rfl))) ⟨zs1,fun x=>x.1.1⟩ (fun x=>by kernel_rfl)
def HN(m:(List Int)->Option Int):az K:=cI 180 rT (fun x=>m x.1.1)
theorem M3:aj (HN (M.HO)):=aL (cx:=dU) true dZ Tryz.func180 (aH (aE (by kernel_rfl))) ⟨zs1,fun x=>x.1.1⟩ (fun x=>by kernel_rfl)
def aej(m:M.eA->M.aJ->Option Bool):az K:=cB 299 Ny (fun x=>m x.1.1 x.1.2.1)
def aek:Cx K:=aT [(213,.plain),(335,.plain),(180,.plain)] [MW M.MX,aeh M.aei,HN M.HO] []
theorem auC:aK aek:=aO ak _ (af Yp (af auB (af M3 an)))
theorem auD:aj (aej (M.Dp)):=aL (cx:=aek) true auC Tryz.func299 (aH (aE (by kernel_rfl))) ⟨zs0,fun x=>x.1.1⟩ (fun x=>by kernel_rfl)
def ael(m:M.eA->M.aJ->Option (Int×Int)):az K:={f:=300,sh:=Ny,R:=Int×Int,run:=fun x=>m x.1.1 x.1.2.1,dflt:=default,out:=fun r=>(Sh.enc D (.bT [.int .i64,.int .i64]) (r.1,(r.2,())),aU.encs D [] ())}
def aem:Cx K:=aT [(255,.plain)] [Dm M.lJ] []
theorem auE:aK aem:=aO ak _ (af I3 an)
theorem auF:aj (ael (M.Dq)):=aL (cx:=aem) true auE Tryz.func300 (aH (aE (by kernel_rfl))) ⟨Nx,fun x=>(x.1.1.1,x.1.1.2.1)⟩ (fun x=>by kernel_rfl)
def aen(m:M.eA->M.aJ->Option Int):az K:=cI 302 Ny (fun x=>m x.1.1 x.1.2.1)
def aeo:Cx K:=aT [(255,.plain),(180,.plain)] [Dm M.lJ,HN M.HO] []
theorem auG:aK aeo:=aO ak _ (af I3 (af M3 an))
theorem auH:aj (aen (M.Ds)):=aL (cx:=aeo) true auG Tryz.func302 (aH (aE (by kernel_rfl))) ⟨zs1,fun x=>x.1.1⟩ (fun x=>by kernel_rfl)
def aep(m:M.aJ->Int->(List M.aM)->(List M.aw)->(List UInt8)->Int->Int->Bool->(List M.aJ)->(List M.bc)->Int->Int->Bool->(List Int)->(List Int)->Option (Int×Int×(List M.aM)×(List M.aw)×(List UInt8)×Int×Int×Bool×(List M.aJ)×(List M.bc)×Int×Int×Bool×(List Int)×(List Int))):az K:={f:=254,sh:=acy,R:=Int×Int×(List M.aM)×(List M.aw)×(List UInt8)×Int×Int×Bool×(List M.aJ)×(List M.bc)×Int×Int×Bool×(List Int)×(List Int),run:=fun x=>m x.1.2.1 x.2.1.1 x.2.1.2.1 x.2.1.2.2.1 x.2.1.2.2.2.1 x.2.1.2.2.2.2.1 x.2.1.2.2.2.2.2.1 x.2.1.2.2.2.2.2.2.1 x.2.1.2.2.2.2.2.2.2.1 x.2.1.2.2.2.2.2.2.2.2.1 x.2.1.2.2.2.2.2.2.2.2.2.1 x.2.1.2.2.2.2.2.2.2.2.2.2.2.2.1 x.2.1.2.2.2.2.2.2.2.2.2.2.2.2.2.1 x.2.2.1 x.2.2.2.1,dflt:=default,out:=fun r=>(Sh.enc D (.int .i64) r.1,aU.encs D [.box [.int .i64,.ah U.Import,.ah U.Core,.str,.int .i64,.int .i64,.bool,.ah U.Ins,.ah U.CodeBlock,.int .i64,.own 3,.own 4,.int .i64,.bool],.dead,.dead,.arr U.i64,.arr U.i64] ((r.2.1,(r.2.2.1,(r.2.2.2.1,(r.2.2.2.2.1,(r.2.2.2.2.2.1,(r.2.2.2.2.2.2.1,(r.2.2.2.2.2.2.2.1,(r.2.2.2.2.2.2.2.2.1,(r.2.2.2.2.2.2.2.2.2.1,(r.2.2.2.2.2.2.2.2.2.2.1,((),((),(r.2.2.2.2.2.2.2.2.2.2.2.1,(r.2.2.2.2.2.2.2.2.2.2.2.2.1,())))))))))))))),((),((),(r.2.2.2.2.2.2.2.2.2.2.2.2.2.1,(r.2.2.2.2.2.2.2.2.2.2.2.2.2.2,()))))))}
def aeq:Cx K:={dc with mode:=cV .plain [(298,.m6),(299,.plain),(300,.plain),(301,.plain),(302,.plain),(296,.plain)],mv:=true,call:=callOf D [aef M.Dn,aej M.Dp,ael M.Dq,NK M.vK,aen M.Ds,NF M.NG],loop:=cP []}
theorem auI:aK aeq:=aO ak _ (af auA (af auD (af auF (af aee (af auH (af ad7 an))))))
theorem auJ:aj (aep (M.Dt)):=aL (cx:=aeq) true auI Tryz.func254 (aH (aE (by kernel_rfl))) ⟨acz,fun x=>(x.1.1,x.2.1.1,x.2.1.2.1,x.2.1.2.2.1,x.2.1.2.2.2.1,x.2.1.2.2.2.2.1,x.2.1.2.2.2.2.2.1,x.2.1.2.2.2.2.2.2.1,x.2.1.2.2.2.2.2.2.2.1,x.2.1.2.2.2.2.2.2.2.2.1,x.2.1.2.2.2.2.2.2.2.2.2.1,x.2.1.2.2.2.2.2.2.2.2.2.2.2.2.1,x.2.1.2.2.2.2.2.2.2.2.2.2.2.2.2.1,x.2.2.2.2.1,x.2.2.2.2.2.1)⟩ (fun x=>by kernel_rfl)
def auK(y:(Int×Int×(List M.cZ)×(List M.bc))⊕((List M.bc)×M.aw×Int×(List M.aM)×(List M.aw)×(List UInt8)×Int×Int×Bool×(List M.aJ)×(List M.bc)×Int×Int×Bool×(List M.cZ)×(List Int)×(List Int))){R:Type}(k:KT R):R:=match y with|.inl a0=>kk k Ex.ret acA (((),((),((),((),((),((),(a0.1,(a0.2.1,())))))))),((),((),((),((),((),((),(a0.2.2.1,(a0.2.2.2,((),((),())))))))))))|.inr a1=>kk k (Ex.exit 0) acB (((),(a1.1,((),((),((),((),((),((),())))))))),(a1.2.1,((a1.2.2.1,(a1.2.2.2.1,(a1.2.2.2.2.1,(a1.2.2.2.2.2.1,(a1.2.2.2.2.2.2.1,(a1.2.2.2.2.2.2.2.1,(a1.2.2.2.2.2.2.2.2.1,(a1.2.2.2.2.2.2.2.2.2.1,(a1.2.2.2.2.2.2.2.2.2.2.1,(a1.2.2.2.2.2.2.2.2.2.2.2.1,((),((),(a1.2.2.2.2.2.2.2.2.2.2.2.2.1,(a1.2.2.2.2.2.2.2.2.2.2.2.2.2.1,())))))))))))))),((),((),((),(a1.2.2.2.2.2.2.2.2.2.2.2.2.2.2.1,(a1.2.2.2.2.2.2.2.2.2.2.2.2.2.2.2.1,(a1.2.2.2.2.2.2.2.2.2.2.2.2.2.2.2.2,())))))))))
def auL:List (cF K ((Int×Int×(List M.cZ)×(List M.bc))⊕((List M.bc)×M.aw×Int×(List M.aM)×(List M.aw)×(List UInt8)×Int×Int×Bool×(List M.aJ)×(List M.bc)×Int×Int×Bool×(List M.cZ)×(List Int)×(List Int)))):=[⟨Ex.ret,acA,fun x=>.inl (x.1.2.2.2.2.2.2.1,x.1.2.2.2.2.2.2.2.1,x.2.2.2.2.2.2.2.1,x.2.2.2.2.2.2.2.2.1)⟩,⟨(Ex.exit 0),acB,fun x=>.inr ((x.1.2.1,x.2.1,x.2.2.1.1,x.2.2.1.2.1,x.2.2.1.2.2.1,x.2.2.1.2.2.2.1,x.2.2.1.2.2.2.2.1,x.2.2.1.2.2.2.2.2.1,x.2.2.1.2.2.2.2.2.2.1,x.2.2.1.2.2.2.2.2.2.2.1,x.2.2.1.2.2.2.2.2.2.2.2.1,x.2.2.1.2.2.2.2.2.2.2.2.2.1,x.2.2.1.2.2.2.2.2.2.2.2.2.2.2.2.1,x.2.2.1.2.2.2.2.2.2.2.2.2.2.2.2.2.1,x.2.2.2.2.2.2.1,x.2.2.2.2.2.2.2.1,x.2.2.2.2.2.2.2.2.1))⟩]
def aer:bo K:=bA D false 84 5 [8,9,12,13,40,41,42] [8,9,12,13,4,5,6,7] acC (fun x=>M.sR x.1.2.1 x.1.2.2.2.2.1 x.1.2.2.2.2.2.1 x.2.1 ae x.1.2.2.2.2.2.2.1 x.2.2.1.1 x.2.2.1.2.1 x.2.2.1.2.2.1 x.2.2.1.2.2.2.1 x.2.2.1.2.2.2.2.1 x.2.2.1.2.2.2.2.2.1 x.2.2.1.2.2.2.2.2.2.1 x.2.2.1.2.2.2.2.2.2.2.1 x.2.2.1.2.2.2.2.2.2.2.2.1 x.2.2.1.2.2.2.2.2.2.2.2.2.1 x.2.2.1.2.2.2.2.2.2.2.2.2.2.2.2.1 x.2.2.1.2.2.2.2.2.2.2.2.2.2.2.2.2.1 x.2.2.2.2.2.2.1 x.2.2.2.2.2.2.2.1 x.2.2.2.2.2.2.2.2.1) auK
def Yn(m:M.aR->Int->Option (Int×Int×(List M.cZ))):az K:={f:=214,sh:=Nv,R:=Int×Int×(List M.cZ),run:=fun x=>m x.1.1 x.1.2.1,dflt:=default,out:=fun r=>(Sh.enc D (.bT [.own 0,.any,.int .i64,.int .i64]) ((),((),(r.1,(r.2.1,())))),aU.encs D [.tree U.gI] (r.2.2,()))}
def I4:Cx K:={dc with mode:=cV .plain [(252,.ez),(253,.m6),(254,.m6),(255,.plain),(256,.plain)],eJ:=[[some U.gI],[some U.CodeBlock],[],[]],deep:=fun c=>cQ (D.cells c (K.zero c)),I1:=[false,true,false,false],call:=callOf D [aea M.Dk,aec M.Dl,aep M.Dt,Dm M.lJ,NH M.NI],loop:=cP [(7,aer)]}
theorem aes:aK I4:=aO ak _ (af auu (af auy (af auJ (af I3 (af ad9 an)))))
theorem auM:bp I4 (bm (bw Tryz.f214) 0) aer:=bB (cx:=I4) (sh:=acC) (run:=fun n x=>M.sR x.1.2.1 x.1.2.2.2.2.1 x.1.2.2.2.2.2.1 x.2.1 n x.1.2.2.2.2.2.2.1 x.2.2.1.1 x.2.2.1.2.1 x.2.2.1.2.2.1 x.2.2.1.2.2.2.1 x.2.2.1.2.2.2.2.1 x.2.2.1.2.2.2.2.2.1 x.2.2.1.2.2.2.2.2.2.1 x.2.2.1.2.2.2.2.2.2.2.1 x.2.2.1.2.2.2.2.2.2.2.2.1 x.2.2.1.2.2.2.2.2.2.2.2.2.1 x.2.2.1.2.2.2.2.2.2.2.2.2.2.2.2.1 x.2.2.1.2.2.2.2.2.2.2.2.2.2.2.2.2.1 x.2.2.2.2.2.2.1 x.2.2.2.2.2.2.2.1 x.2.2.2.2.2.2.2.2.1) (bq:=auL) ak aes aW (aE (by kernel_rfl)) (fun _=>rfl) (fun m x=>by kernel_rfl) (af ⟨cm,fun _ _ _=>rfl⟩ (af ⟨bC,fun _ _ _=>rfl⟩ an)) false ae
theorem aqf:aj (Yn (M.BO)):=aL (cx:=I4) false aes Tryz.func214 (aH (bH 1 (by kernel_rfl) (bI (.mk (by kernel_rfl) auM)))) ⟨⟨[.bT [.own 0,.any,.int .i64,.int .i64]],[.tree U.gI]⟩,fun x=>(x.1.1.2.2.1,x.1.1.2.2.2.1,x.2.1)⟩ (fun x=>by kernel_rfl)
def aet(m:M.aM->M.aM->Option Bool):az K:=cB 119 ⟨[.el U.Import,.el U.Import],[]⟩ (fun x=>m x.1.1 x.1.2.1)
theorem auN:aj (aet (M.Du)):=aL (cx:=dU) true dZ Tryz.func119 (aH (aE (by kernel_rfl))) ⟨zs0,fun x=>x.1.1⟩ (fun x=>by kernel_rfl)
def iU(y:Bool⊕Unit){R:Type}(k:KT R):R:=match y with|.inl a0=>kk k Ex.ret zs0 ((a0,()),())|.inr a1=>kk k (Ex.exit 0) zs2 (((),()),())
def iV:List (cF K ((Bool)⊕Unit)):=[⟨Ex.ret,zs0,fun x=>.inl x.1.1⟩,⟨(Ex.exit 0),zs2,fun x=>.inr (())⟩]
def aeu:bo K:=bA D false 27 0 [0,1,5] [4] acD (fun x=>M.vL x.1.1 x.1.2.1 ae x.1.2.2.1) iU
def aev(m:(List M.aM)->(List M.aM)->Option Bool):az K:=cB 73 ⟨[.ah U.Import,.ah U.Import],[]⟩ (fun x=>m x.1.1 x.1.2.1)
def I5:Cx K:=aT [(119,.plain)] [aet M.Du] [(4,aeu)]
theorem aew:aK I5:=aO ak _ (af auN an)
theorem auO:bp I5 (bm (bw Tryz.f73) 0) aeu:=bB (cx:=I5) (sh:=acD) (run:=fun n x=>M.vL x.1.1 x.1.2.1 n x.1.2.2.1) (bq:=iV) ak aew aW (aE (by kernel_rfl)) (fun _=>rfl) (fun m x=>by kernel_rfl) (af ⟨cm,fun _ _ _=>rfl⟩ (af ⟨bC,fun _ _ _=>rfl⟩ an)) false ae
theorem auP:aj (aev (M.Dv)):=aL (cx:=I5) true aew Tryz.func73 (aH (bH 1 (by kernel_rfl) (bI (.mk (by kernel_rfl) auO)))) ⟨zs0,fun x=>x.1.1⟩ (fun x=>by kernel_rfl)
def aex(m:M.aJ->M.aJ->Option Bool):az K:=cB 188 ⟨[.el U.Ins,.el U.Ins],[]⟩ (fun x=>m x.1.1 x.1.2.1)
theorem auQ:aj (aex (M.Dw)):=aL (cx:=dU) true dZ Tryz.func188 (aH (aE (by kernel_rfl))) ⟨zs0,fun x=>x.1.1⟩ (fun x=>by kernel_rfl)
def aey:bo K:=bA D false 27 0 [0,1,5] [4] acE (fun x=>M.vM x.1.1 x.1.2.1 ae x.1.2.2.1) iU
def aez(m:(List M.aJ)->(List M.aJ)->Option Bool):az K:=cB 152 ⟨[.ah U.Ins,.ah U.Ins],[]⟩ (fun x=>m x.1.1 x.1.2.1)
def I6:Cx K:=aT [(188,.plain)] [aex M.Dw] [(4,aey)]
theorem aeA:aK I6:=aO ak _ (af auQ an)
theorem auR:bp I6 (bm (bw Tryz.f152) 0) aey:=bB (cx:=I6) (sh:=acE) (run:=fun n x=>M.vM x.1.1 x.1.2.1 n x.1.2.2.1) (bq:=iV) ak aeA aW (aE (by kernel_rfl)) (fun _=>rfl) (fun m x=>by kernel_rfl) (af ⟨cm,fun _ _ _=>rfl⟩ (af ⟨bC,fun _ _ _=>rfl⟩ an)) false ae
theorem auS:aj (aez (M.Dx)):=aL (cx:=I6) true aeA Tryz.func152 (aH (bH 1 (by kernel_rfl) (bI (.mk (by kernel_rfl) auR)))) ⟨zs0,fun x=>x.1.1⟩ (fun x=>by kernel_rfl)
def aeB(m:M.aw->M.aw->Option Bool):az K:=cB 120 ⟨[.el U.Core,.el U.Core],[]⟩ (fun x=>m x.1.1 x.1.2.1)
def aeC:Cx K:=aT [(152,.plain)] [aez M.Dx] []
theorem auT:aK aeC:=aO ak _ (af auS an)
theorem auU:aj (aeB (M.Dy)):=aL (cx:=aeC) true auT Tryz.func120 (aH (aE (by kernel_rfl))) ⟨zs0,fun x=>x.1.1⟩ (fun x=>by kernel_rfl)
def aeD:bo K:=bA D false 27 0 [0,1,5] [4] acF (fun x=>M.vN x.1.1 x.1.2.1 ae x.1.2.2.1) iU
def aeE(m:(List M.aw)->(List M.aw)->Option Bool):az K:=cB 74 ⟨[.ah U.Core,.ah U.Core],[]⟩ (fun x=>m x.1.1 x.1.2.1)
def I7:Cx K:=aT [(120,.plain)] [aeB M.Dy] [(4,aeD)]
theorem aeF:aK I7:=aO ak _ (af auU an)
theorem auV:bp I7 (bm (bw Tryz.f74) 0) aeD:=bB (cx:=I7) (sh:=acF) (run:=fun n x=>M.vN x.1.1 x.1.2.1 n x.1.2.2.1) (bq:=iV) ak aeF aW (aE (by kernel_rfl)) (fun _=>rfl) (fun m x=>by kernel_rfl) (af ⟨cm,fun _ _ _=>rfl⟩ (af ⟨bC,fun _ _ _=>rfl⟩ an)) false ae
theorem auW:aj (aeE (M.Dz)):=aL (cx:=I7) true aeF Tryz.func74 (aH (bH 1 (by kernel_rfl) (bI (.mk (by kernel_rfl) auV)))) ⟨zs0,fun x=>x.1.1⟩ (fun x=>by kernel_rfl)
def XS(m:M.aR->M.aR->Option Bool):az K:=cB 36 ⟨[.el U.Module,.el U.Module],[]⟩ (fun x=>m x.1.1 x.1.2.1)
def aeG:Cx K:=aT [(73,.plain),(74,.plain)] [aev M.Dv,aeE M.Dz] []
theorem auX:aK aeG:=aO ak _ (af auP (af auW an))
theorem apT:aj (XS (M.BJ)):=aL (cx:=aeG) true auX Tryz.func36 (aH (aE (by kernel_rfl))) ⟨zs0,fun x=>x.1.1⟩ (fun x=>by kernel_rfl)
def aeH:bo K:=bA D false 28 0 [0,1,5] [1,4] yt (fun x=>M.vO x.1.1 ae x.1.2.1 x.1.2.2.1) lD
def NL(m:(List (List UInt8))->Int->Option Int):az K:=cI 85 xG (fun x=>m x.1.1 x.1.2.1)
def I8:Cx K:=aT [] [] [(5,aeH)]
theorem aeI:aK I8:=aO ak _ an
theorem auY:bp I8 (bm (bw Tryz.f85) 0) aeH:=bB (cx:=I8) (sh:=yt) (run:=fun n x=>M.vO x.1.1 n x.1.2.1 x.1.2.2.1) (bq:=lE) ak aeI aW (aE (by kernel_rfl)) (fun _=>rfl) (fun m x=>by kernel_rfl) (af ⟨cm,fun _ _ _=>rfl⟩ (af ⟨bC,fun _ _ _=>rfl⟩ an)) false ae
theorem aeJ:aj (NL (M.vP)):=aL (cx:=I8) true aeI Tryz.func85 (aH (bH 1 (by kernel_rfl) (bI (.mk (by kernel_rfl) auY)))) ⟨zs1,fun x=>x.1.1⟩ (fun x=>by kernel_rfl)
def m7(m:M.aa->Int->Option Int):az K:=cI 190 CS (fun x=>m x.1.1 x.1.2.1)
def aeK(d5:M.aa->Int->Option Int):bo K:=bA D false 27 0 [0,1,5] [1,4] IA (fun x=>M.vQ d5 x.1.1 ae x.1.2.1 x.1.2.2.1) lD
def aeL(m:(List M.aa)->Int->Option Int):az K:=cI 221 GQ (fun x=>m x.1.1 x.1.2.1)
def I9(d5:M.aa->Int->Option Int):Cx K:=aT [(190,.plain)] [m7 d5] [(5,aeK d5)]
theorem aeM(d5:M.aa->Int->Option Int)(oL:aj (m7 d5)):aK (I9 d5):=aO ak _ (af oL an)
theorem auZ(d5:M.aa->Int->Option Int)(oL:aj (m7 d5)):bp (I9 d5) (bm (bw Tryz.f221) 0) (aeK d5):=bB (cx:=I9 d5) (sh:=IA) (run:=fun n x=>M.vQ d5 x.1.1 n x.1.2.1 x.1.2.2.1) (bq:=lE) ak (aeM d5 oL) aW (aE (by kernel_rfl)) (fun _=>rfl) (fun m x=>by kernel_rfl) (af ⟨cm,fun _ _ _=>rfl⟩ (af ⟨bC,fun _ _ _=>rfl⟩ an)) false ae
theorem au0(d5:M.aa->Int->Option Int)(oL:aj (m7 d5)):aj (aeL (M.DC d5)):=fb (cx:=I9 d5) (fz:=true) ak (aeM d5 oL) aW ⟨Tryz.func221,by kernel_rfl⟩ (aH (bH 1 (by kernel_rfl) (bI (.mk (by kernel_rfl) (auZ d5 oL))))) ⟨zs1,fun x=>x.1.1⟩ (fun x=>rfl) (fun x=>by kernel_rfl)
def aeN(d5:M.aa->Int->Option Int):Cx K:=aT [(85,.plain),(221,.plain)] [NL M.vP,aeL (M.DC d5)] []
theorem au1(d5:M.aa->Int->Option Int)(oL:aj (m7 d5)):aK (aeN d5):=aO ak _ (af aeJ (af (au0 d5 oL) an))
theorem au2(d5:M.aa->Int->Option Int)(oL:aj (m7 d5)):aj (m7 (M.Ja d5)):=fb (cx:=aeN d5) (fz:=true) ak (au1 d5 oL) aW ⟨Tryz.func190,by kernel_rfl⟩ (aH (aE (by kernel_rfl))) ⟨zs1,fun x=>x.1.1⟩ (fun x=>rfl) (fun x=>by kernel_rfl)
theorem aeO:∀n,aj (m7 (M.vR n))|0=>ic fun _=>rfl|n+1=>au2 (M.vR n) (aeO n)
theorem aeP:aj (m7 (M.yw)):=aeO ae
def aeQ:bo K:=bA D false 26 0 [0,1,5] [4] IH (fun x=>M.vS x.1.1 x.1.2.1 ae x.1.2.2.1) iU
def Me(m:(List (List UInt8))->(List (List UInt8))->Option Bool):az K:=cB 70 ⟨[.ah U.str,.ah U.str],[]⟩ (fun x=>m x.1.1 x.1.2.1)
def Jb:Cx K:=aT [] [] [(4,aeQ)]
theorem aeR:aK Jb:=aO ak _ an
theorem au3:bp Jb (bm (bw Tryz.f70) 0) aeQ:=bB (cx:=Jb) (sh:=IH) (run:=fun n x=>M.vS x.1.1 x.1.2.1 n x.1.2.2.1) (bq:=iV) ak aeR aW (aE (by kernel_rfl)) (fun _=>rfl) (fun m x=>by kernel_rfl) (af ⟨cm,fun _ _ _=>rfl⟩ (af ⟨bC,fun _ _ _=>rfl⟩ an)) false ae
theorem UQ:aj (Me (M.uQ)):=aL (cx:=Jb) true aeR Tryz.func70 (aH (bH 1 (by kernel_rfl) (bI (.mk (by kernel_rfl) au3)))) ⟨zs0,fun x=>x.1.1⟩ (fun x=>by kernel_rfl)
def mX(m:M.aa->M.aa->Option Bool):az K:=cB 34 ⟨[.el U.Type,.el U.Type],[]⟩ (fun x=>m x.1.1 x.1.2.1)
def aeS(d6:M.aa->M.aa->Option Bool):bo K:=bA D false 27 0 [0,1,5] [4] acG (fun x=>M.vT d6 x.1.1 x.1.2.1 ae x.1.2.2.1) iU
def aeT(m:(List M.aa)->(List M.aa)->Option Bool):az K:=cB 71 ⟨[.ah U.Type,.ah U.Type],[]⟩ (fun x=>m x.1.1 x.1.2.1)
def Jc(d6:M.aa->M.aa->Option Bool):Cx K:=aT [(34,.plain)] [mX d6] [(4,aeS d6)]
theorem aeU(d6:M.aa->M.aa->Option Bool)(oM:aj (mX d6)):aK (Jc d6):=aO ak _ (af oM an)
theorem au4(d6:M.aa->M.aa->Option Bool)(oM:aj (mX d6)):bp (Jc d6) (bm (bw Tryz.f71) 0) (aeS d6):=bB (cx:=Jc d6) (sh:=acG) (run:=fun n x=>M.vT d6 x.1.1 x.1.2.1 n x.1.2.2.1) (bq:=iV) ak (aeU d6 oM) aW (aE (by kernel_rfl)) (fun _=>rfl) (fun m x=>by kernel_rfl) (af ⟨cm,fun _ _ _=>rfl⟩ (af ⟨bC,fun _ _ _=>rfl⟩ an)) false ae
theorem au5(d6:M.aa->M.aa->Option Bool)(oM:aj (mX d6)):aj (aeT (M.DD d6)):=fb (cx:=Jc d6) (fz:=true) ak (aeU d6 oM) aW ⟨Tryz.func71,by kernel_rfl⟩ (aH (bH 1 (by kernel_rfl) (bI (.mk (by kernel_rfl) (au4 d6 oM))))) ⟨zs0,fun x=>x.1.1⟩ (fun x=>rfl) (fun x=>by kernel_rfl)
def aeV(d6:M.aa->M.aa->Option Bool):Cx K:=aT [(70,.plain),(71,.plain)] [Me M.uQ,aeT (M.DD d6)] []
theorem au6(d6:M.aa->M.aa->Option Bool)(oM:aj (mX d6)):aK (aeV d6):=aO ak _ (af UQ (af (au5 d6 oM) an))
theorem au7(d6:M.aa->M.aa->Option Bool)(oM:aj (mX d6)):aj (mX (M.Jd d6)):=fb (cx:=aeV d6) (fz:=true) ak (au6 d6 oM) aW ⟨Tryz.func34,by kernel_rfl⟩ (aH (aE (by kernel_rfl))) ⟨zs0,fun x=>x.1.1⟩ (fun x=>rfl) (fun x=>by kernel_rfl)
theorem aeW:∀n,aj (mX (M.vU n))|0=>ic fun _=>rfl|n+1=>au7 (M.vU n) (aeW n)
theorem UB:aj (mX (M.xO)):=aeW ae
def sS(m:M.aa->Int->Option (Int×Int)):az K:={f:=222,sh:=CS,R:=Int×Int,run:=fun x=>m x.1.1 x.1.2.1,dflt:=default,out:=fun r=>(Sh.enc D (.bT [.int .i64,.int .i64]) (r.1,(r.2,())),aU.encs D [] ())}
def MH(m:Int->Int->Option Int):az K:=cI 261 ⟨[.int .i64,.int .i64],[]⟩ (fun x=>m x.1.1 x.1.2.1)
theorem Wn:aj (MH (M.mY)):=aL (cx:=dU) true dZ Tryz.func261 (aH (aE (by kernel_rfl))) ⟨zs1,fun x=>x.1.1⟩ (fun x=>by kernel_rfl)
def au8(y:(Int×Int)⊕(Int×Int)){R:Type}(k:KT R):R:=match y with|.inl a0=>kk k Ex.ret acH (((),((),(a0.1,(a0.2,())))),((),()))|.inr a1=>kk k (Ex.exit 0) acI ((a1.1,(a1.2,((),((),())))),((),()))
def au9:List (cF K ((Int×Int)⊕(Int×Int))):=[⟨Ex.ret,acH,fun x=>.inl (x.1.2.2.1,x.1.2.2.2.1)⟩,⟨(Ex.exit 0),acI,fun x=>.inr ((x.1.1,x.1.2.1))⟩]
def aeX(fG:M.aa->Int->Option (Int×Int)):bo K:=bA D false 48 1 [1,2,6,7,8] [6,7,4,5] acJ (fun x=>M.sU fG x.1.1 ae x.1.2.2.1 x.1.2.2.2.1 x.1.2.2.2.2.1 x.2.1) au8
def Je(fG:M.aa->Int->Option (Int×Int)):Cx K:=aT [(222,.plain),(261,.plain)] [sS fG,MH M.mY] [(6,aeX fG)]
theorem aeY(fG:M.aa->Int->Option (Int×Int))(yx:aj (sS fG)):aK (Je fG):=aO ak _ (af yx (af Wn an))
theorem ava(fG:M.aa->Int->Option (Int×Int))(yx:aj (sS fG)):bp (Je fG) (bm (bw Tryz.f222) 0) (aeX fG):=bB (cx:=Je fG) (sh:=acJ) (run:=fun n x=>M.sU fG x.1.1 n x.1.2.2.1 x.1.2.2.2.1 x.1.2.2.2.2.1 x.2.1) (bq:=au9) ak (aeY fG yx) aW (aE (by kernel_rfl)) (fun _=>rfl) (fun m x=>by kernel_rfl) (af ⟨cm,fun _ _ _=>rfl⟩ (af ⟨bC,fun _ _ _=>rfl⟩ an)) false ae
theorem avb(fG:M.aa->Int->Option (Int×Int))(yx:aj (sS fG)):aj (sS (M.Jf fG)):=fb (cx:=Je fG) (fz:=true) ak (aeY fG yx) aW ⟨Tryz.func222,by kernel_rfl⟩ (aH (bH 1 (by kernel_rfl) (bI (.mk (by kernel_rfl) (ava fG yx))))) ⟨Nx,fun x=>(x.1.1.1,x.1.1.2.1)⟩ (fun x=>rfl) (fun x=>by kernel_rfl)
theorem aeZ:∀n,aj (sS (M.sV n))|0=>ic fun _=>rfl|n+1=>avb (M.sV n) (aeZ n)
theorem avc:aj (sS (M.Jg)):=aeZ ae
def pX(m:Int->Int->Int->Option Bool):az K:=cB 92 ⟨[.int .i64,.int .i64,.int .i64],[]⟩ (fun x=>m x.1.1 x.1.2.1 x.1.2.2.1)
theorem rK:aj (pX (M.pY)):=aL (cx:=dU) true dZ Tryz.func92 (aH (aE (by kernel_rfl))) ⟨zs0,fun x=>x.1.1⟩ (fun x=>by kernel_rfl)
def ae0:bo K:=bA D false 69 0 [0,3] [2] IG (fun x=>M.vV x.1.1 ae x.1.2.1) iU
def ye(m:(List UInt8)->Option Bool):az K:=cB 89 ib (fun x=>m x.1.1)
def Jh:Cx K:=aT [] [] [(4,ae0)]
theorem ae1:aK Jh:=aO ak _ an
theorem avd:bp Jh (bm (bw Tryz.f89) 0) ae0:=bB (cx:=Jh) (sh:=IG) (run:=fun n x=>M.vV x.1.1 n x.1.2.1) (bq:=iV) ak ae1 aW (aE (by kernel_rfl)) (fun _=>rfl) (fun m x=>by kernel_rfl) (af ⟨cm,fun _ _ _=>rfl⟩ (af ⟨bC,fun _ _ _=>rfl⟩ an)) false ae
theorem By:aj (ye (M.jF)):=aL (cx:=Jh) true ae1 Tryz.func89 (aH (bH 1 (by kernel_rfl) (bI (.mk (by kernel_rfl) avd)))) ⟨zs0,fun x=>x.1.1⟩ (fun x=>by kernel_rfl)
def ave(y:Bool⊕((List (List UInt8))×Int)){R:Type}(k:KT R):R:=match y with|.inl a0=>kk k Ex.ret xC (((),((),(a0,()))),())|.inr a1=>kk k (Ex.exit 2) ⟨[.ah U.str,.int .i64,.any],[]⟩ ((a1.1,(a1.2,((),()))),())
def avf:List (cF K ((Bool)⊕((List (List UInt8))×Int))):=[⟨Ex.ret,xC,fun x=>.inl x.1.2.2.1⟩,⟨(Ex.exit 2),⟨[.ah U.str,.int .i64,.any],[]⟩,fun x=>.inr ((x.1.1,x.1.2.1))⟩]
def ae2:bo K:=bA D false 39 0 [0,3,4] [0,3,2] yt (fun x=>M.sW x.1.1 x.1.2.1 ae x.1.2.2.1) ave
def ae3:bo K:=bA D false 39 0 [0,3] [2] xG (fun x=>M.qj ae x.1.1 x.1.2.1) iU
def ae4(m:(List (List UInt8))->Option Bool):az K:=cB 316 pS (fun x=>m x.1.1)
def yy:Cx K:=aT [(89,.plain)] [ye M.jF] [(9,ae2),(4,ae3)]
theorem NM:aK yy:=aO ak _ (af By an)
theorem avg:bp yy (bm (bm (bw Tryz.f316) 0) 0) ae2:=bB (cx:=yy) (sh:=yt) (run:=fun n x=>M.sW x.1.1 x.1.2.1 n x.1.2.2.1) (bq:=avf) ak NM aW (aE (by kernel_rfl)) (fun _=>rfl) (fun m x=>by kernel_rfl) (af ⟨cm,fun _ _ _=>rfl⟩ (af ⟨bC,fun _ _ _=>rfl⟩ an)) false ae
theorem avh:bp yy (bm (bw Tryz.f316) 0) ae3:=bB (cx:=yy) (sh:=xG) (run:=fun n x=>M.qj n x.1.1 x.1.2.1) (bq:=iV) ak NM aW (bH 1 (by kernel_rfl) (bI (.mk (by kernel_rfl) avg))) (fun _=>rfl) (fun m x=>by kernel_rfl) (af ⟨cm,fun _ _ _=>rfl⟩ (af ⟨bC,fun _ _ _=>rfl⟩ an)) false ae
theorem avi:aj (ae4 (M.DF)):=aL (cx:=yy) true NM Tryz.func316 (aH (bH 1 (by kernel_rfl) (bI (.mk (by kernel_rfl) avh)))) ⟨zs0,fun x=>x.1.1⟩ (fun x=>by kernel_rfl)
def rx(y:Bool⊕Unit){R:Type}(k:KT R):R:=match y with|.inl a0=>kk k Ex.ret IF ((a0,()),((),()))|.inr a1=>kk k (Ex.exit 0) xY (((),()),((),()))
def ry:List (cF K ((Bool)⊕Unit)):=[⟨Ex.ret,IF,fun x=>.inl x.1.1⟩,⟨(Ex.exit 0),xY,fun x=>.inr (())⟩]
def ae5:bo K:=bA D false 18 1 [1,3] [2] II (fun x=>M.oN ae x.1.2.1 x.2.1) rx
def ae6(m:M.aa->Option Bool):az K:=cB 317 iv (fun x=>m x.1.1)
def Ji:Cx K:=aT [] [] [(2,ae5)]
theorem ae7:aK Ji:=aO ak _ an
theorem avj:bp Ji (bm (bw Tryz.f317) 0) ae5:=bB (cx:=Ji) (sh:=II) (run:=fun n x=>M.oN n x.1.2.1 x.2.1) (bq:=ry) ak ae7 aW (aE (by kernel_rfl)) (fun _=>rfl) (fun m x=>by kernel_rfl) (af ⟨cm,fun _ _ _=>rfl⟩ (af ⟨bC,fun _ _ _=>rfl⟩ an)) false ae
theorem avk:aj (ae6 (M.vW)):=aL (cx:=Ji) true ae7 Tryz.func317 (aH (bH 1 (by kernel_rfl) (bI (.mk (by kernel_rfl) avj)))) ⟨zs0,fun x=>x.1.1⟩ (fun x=>by kernel_rfl)
def oo(m:M.aa->Int->Int->Option Bool):az K:=cB 157 ⟨[.el U.Type,.int .i64,.int .i64],[]⟩ (fun x=>m x.1.1 x.1.2.1 x.1.2.2.1)
def ae8(fH:M.aa->Int->Int->Option Bool):bo K:=bA D false 28 1 [1,2,3,7] [6] acK (fun x=>M.oO fH x.1.1 x.1.2.1 ae x.1.2.2.2.1 x.2.1) rx
def Jj(fH:M.aa->Int->Int->Option Bool):Cx K:=aT [(92,.plain),(157,.plain)] [pX M.pY,oo fH] [(4,ae8 fH)]
theorem ae9(fH:M.aa->Int->Int->Option Bool)(yz:aj (oo fH)):aK (Jj fH):=aO ak _ (af rK (af yz an))
theorem avl(fH:M.aa->Int->Int->Option Bool)(yz:aj (oo fH)):bp (Jj fH) (bm (bw Tryz.f157) 0) (ae8 fH):=bB (cx:=Jj fH) (sh:=acK) (run:=fun n x=>M.oO fH x.1.1 x.1.2.1 n x.1.2.2.2.1 x.2.1) (bq:=ry) ak (ae9 fH yz) aW (aE (by kernel_rfl)) (fun _=>rfl) (fun m x=>by kernel_rfl) (af ⟨cm,fun _ _ _=>rfl⟩ (af ⟨bC,fun _ _ _=>rfl⟩ an)) false ae
theorem avm(fH:M.aa->Int->Int->Option Bool)(yz:aj (oo fH)):aj (oo (M.Jk fH)):=fb (cx:=Jj fH) (fz:=true) ak (ae9 fH yz) aW ⟨Tryz.func157,by kernel_rfl⟩ (aH (bH 1 (by kernel_rfl) (bI (.mk (by kernel_rfl) (avl fH yz))))) ⟨zs0,fun x=>x.1.1⟩ (fun x=>rfl) (fun x=>by kernel_rfl)
theorem afa:∀n,aj (oo (M.lK n))|0=>ic fun _=>rfl|n+1=>avm (M.lK n) (afa n)
theorem LP:aj (oo (M.jC)):=afa ae
def afb(m:M.aa->Option Bool):az K:=cB 262 iv (fun x=>m x.1.1)
def afc:Cx K:=aT [(92,.plain),(89,.plain),(316,.plain),(317,.plain),(157,.plain)] [pX M.pY,ye M.jF,ae4 M.DF,ae6 M.vW,oo M.jC] []
theorem avn:aK afc:=aO ak _ (af rK (af By (af avi (af avk (af LP an)))))
theorem avo:aj (afb (M.DG)):=aL (cx:=afc) true avn Tryz.func262 (aH (aE (by kernel_rfl))) ⟨zs0,fun x=>x.1.1⟩ (fun x=>by kernel_rfl)
def sX(m:M.aa->Option Bool):az K:=cB 223 iv (fun x=>m x.1.1)
def afd(fJ:M.aa->Option Bool):bo K:=bA D false 21 1 [1,3] [2] II (fun x=>M.oP fJ ae x.1.2.1 x.2.1) rx
def Jl(fJ:M.aa->Option Bool):Cx K:=aT [(262,.plain),(223,.plain)] [afb M.DG,sX fJ] [(4,afd fJ)]
theorem afe(fJ:M.aa->Option Bool)(yA:aj (sX fJ)):aK (Jl fJ):=aO ak _ (af avo (af yA an))
theorem avp(fJ:M.aa->Option Bool)(yA:aj (sX fJ)):bp (Jl fJ) (bm (bw Tryz.f223) 0) (afd fJ):=bB (cx:=Jl fJ) (sh:=II) (run:=fun n x=>M.oP fJ n x.1.2.1 x.2.1) (bq:=ry) ak (afe fJ yA) aW (aE (by kernel_rfl)) (fun _=>rfl) (fun m x=>by kernel_rfl) (af ⟨cm,fun _ _ _=>rfl⟩ (af ⟨bC,fun _ _ _=>rfl⟩ an)) false ae
theorem avq(fJ:M.aa->Option Bool)(yA:aj (sX fJ)):aj (sX (M.Jm fJ)):=fb (cx:=Jl fJ) (fz:=true) ak (afe fJ yA) aW ⟨Tryz.func223,by kernel_rfl⟩ (aH (bH 1 (by kernel_rfl) (bI (.mk (by kernel_rfl) (avp fJ yA))))) ⟨zs0,fun x=>x.1.1⟩ (fun x=>rfl) (fun x=>by kernel_rfl)
theorem aff:∀n,aj (sX (M.oQ n))|0=>ic fun _=>rfl|n+1=>avq (M.oQ n) (aff n)
theorem avr:aj (sX (M.Jn)):=aff ae
def rC(m:M.aa->Int->Option Int):az K:=cI 243 CS (fun x=>m x.1.1 x.1.2.1)
def afg(y:Int){R:Type}(k:KT R):R:=match y with|a0=>kk k (Ex.exit 0) zs1 ((a0,()),())
def afh:List (cF K Int):=[⟨(Ex.exit 0),zs1,fun x=>x.1.1⟩]
def afi(fU:M.aa->Int->Option Int):bo K:=bA D false 26 0 [1,5,11,12,13] [5] acL (fun x=>M.sY fU x.1.1 x.1.2.2.1 x.1.2.2.2.1 ae x.1.2.1 x.1.2.2.2.2.1) afg
def Jo(fU:M.aa->Int->Option Int):Cx K:=aT [(243,.plain)] [rC fU] [(5,afi fU)]
theorem afj(fU:M.aa->Int->Option Int)(yB:aj (rC fU)):aK (Jo fU):=aO ak _ (af yB an)
theorem avs(fU:M.aa->Int->Option Int)(yB:aj (rC fU)):bp (Jo fU) (bm (bw Tryz.f243) 0) (afi fU):=bB (cx:=Jo fU) (sh:=acL) (run:=fun n x=>M.sY fU x.1.1 x.1.2.2.1 x.1.2.2.2.1 n x.1.2.1 x.1.2.2.2.2.1) (bq:=afh) ak (afj fU yB) aW (aE (by kernel_rfl)) (fun _=>rfl) (fun m x=>by kernel_rfl) (af ⟨bC,fun _ _ _=>rfl⟩ an) false ae
theorem avt(fU:M.aa->Int->Option Int)(yB:aj (rC fU)):aj (rC (M.Jp fU)):=fb (cx:=Jo fU) (fz:=true) ak (afj fU yB) aW ⟨Tryz.func243,by kernel_rfl⟩ (aH (bH 1 (by kernel_rfl) (bI (.mk (by kernel_rfl) (avs fU yB))))) ⟨zs1,fun x=>x.1.1⟩ (fun x=>rfl) (fun x=>by kernel_rfl)
theorem afk:∀n,aj (rC (M.sZ n))|0=>ic fun _=>rfl|n+1=>avt (M.sZ n) (afk n)
theorem amS:aj (rC (M.FQ)):=afk ae
def rD(m:M.aa->Option Int):az K:=cI 244 iv (fun x=>m x.1.1)
def afl(fV:M.aa->Option Int):bo K:=bA D false 19 0 [3,7,8,9] [3] acM (fun x=>M.s6 fV x.1.2.1 x.1.2.2.1 ae x.1.1 x.1.2.2.2.1) afg
def Jq(fV:M.aa->Option Int):Cx K:=aT [(244,.plain)] [rD fV] [(3,afl fV)]
theorem afm(fV:M.aa->Option Int)(yC:aj (rD fV)):aK (Jq fV):=aO ak _ (af yC an)
theorem avu(fV:M.aa->Option Int)(yC:aj (rD fV)):bp (Jq fV) (bm (bw Tryz.f244) 0) (afl fV):=bB (cx:=Jq fV) (sh:=acM) (run:=fun n x=>M.s6 fV x.1.2.1 x.1.2.2.1 n x.1.1 x.1.2.2.2.1) (bq:=afh) ak (afm fV yC) aW (aE (by kernel_rfl)) (fun _=>rfl) (fun m x=>by kernel_rfl) (af ⟨bC,fun _ _ _=>rfl⟩ an) false ae
theorem avv(fV:M.aa->Option Int)(yC:aj (rD fV)):aj (rD (M.Jr fV)):=fb (cx:=Jq fV) (fz:=true) ak (afm fV yC) aW ⟨Tryz.func244,by kernel_rfl⟩ (aH (bH 1 (by kernel_rfl) (bI (.mk (by kernel_rfl) (avu fV yC))))) ⟨zs1,fun x=>x.1.1⟩ (fun x=>rfl) (fun x=>by kernel_rfl)
theorem afn:∀n,aj (rD (M.s7 n))|0=>ic fun _=>rfl|n+1=>avv (M.s7 n) (afn n)
theorem amT:aj (rD (M.FR)):=afn ae
def kL(m:M.aa->Option Bool):az K:=cB 245 iv (fun x=>m x.1.1)
def afo(m:M.aa->Option Bool):az K:=cB 285 iv (fun x=>m x.1.1)
def afp(cL:M.aa->Option Bool):Cx K:=aT [(245,.plain)] [kL cL] []
theorem avw(cL:M.aa->Option Bool)(i6:aj (kL cL)):aK (afp cL):=aO ak _ (af i6 an)
theorem avx(cL:M.aa->Option Bool)(i6:aj (kL cL)):aj (afo (M.DI cL)):=fb (cx:=afp cL) (fz:=true) ak (avw cL i6) aW ⟨Tryz.func285,by kernel_rfl⟩ (aH (aE (by kernel_rfl))) ⟨zs0,fun x=>x.1.1⟩ (fun x=>rfl) (fun x=>by kernel_rfl)
def afq(cL:M.aa->Option Bool):bo K:=bA D false 19 0 [0,1,7,8] [4] acN (fun x=>M.vX cL x.1.1 x.1.2.2.1 ae x.1.2.2.2.1) iJ
def afr(m:(List M.aa)->Option Int):az K:=cI 208 ⟨[.ah U.Type,.fn 285 []],[]⟩ (fun x=>m x.1.1)
def Js(cL:M.aa->Option Bool):Cx K:=aT [(285,.plain)] [afo (M.DI cL)] [(2,afq cL)]
theorem afs(cL:M.aa->Option Bool)(i6:aj (kL cL)):aK (Js cL):=aO ak _ (af (avx cL i6) an)
theorem avy(cL:M.aa->Option Bool)(i6:aj (kL cL)):bp (Js cL) (bm (bw Tryz.f208) 0) (afq cL):=bB (cx:=Js cL) (sh:=acN) (run:=fun n x=>M.vX cL x.1.1 x.1.2.2.1 n x.1.2.2.2.1) (bq:=iK) ak (afs cL i6) aW (aE (by kernel_rfl)) (fun _=>rfl) (fun m x=>by kernel_rfl) (af ⟨cm,fun _ _ _=>rfl⟩ (af ⟨bC,fun _ _ _=>rfl⟩ an)) false ae
theorem avz(cL:M.aa->Option Bool)(i6:aj (kL cL)):aj (afr (M.Jt cL)):=fb (cx:=Js cL) (fz:=true) ak (afs cL i6) aW ⟨Tryz.func208,by kernel_rfl⟩ (aH (bH 1 (by kernel_rfl) (bI (.mk (by kernel_rfl) (avy cL i6))))) ⟨zs1,fun x=>x.1.1⟩ (fun x=>rfl) (fun x=>by kernel_rfl)
def aft(m:(List M.aa)->Option Bool):az K:=cB 172 ⟨[.ah U.Type,.fn 285 []],[]⟩ (fun x=>m x.1.1)
def afu(cL:M.aa->Option Bool):Cx K:=aT [(208,.plain)] [afr (M.Jt cL)] []
theorem avA(cL:M.aa->Option Bool)(i6:aj (kL cL)):aK (afu cL):=aO ak _ (af (avz cL i6) an)
theorem avC(cL:M.aa->Option Bool)(i6:aj (kL cL)):aj (aft (M.yD cL)):=fb (cx:=afu cL) (fz:=true) ak (avA cL i6) aW ⟨Tryz.func172,by kernel_rfl⟩ (aH (aE (by kernel_rfl))) ⟨zs0,fun x=>x.1.1⟩ (fun x=>rfl) (fun x=>by kernel_rfl)
def mU(m:Int->Int->Int->Option Bool):az K:=cB 109 ⟨[.int .i64,.int .i64,.int .i64],[]⟩ (fun x=>m x.1.1 x.1.2.1 x.1.2.2.1)
theorem ot:aj (mU (M.mV)):=aL (cx:=dU) true dZ Tryz.func109 (aH (aE (by kernel_rfl))) ⟨zs0,fun x=>x.1.1⟩ (fun x=>by kernel_rfl)
def NN(m:(List (List UInt8))->Option Int):az K:=cI 289 pS (fun x=>m x.1.1)
theorem afv:aj (NN (M.NP)):=aL (cx:=dU) true dZ Tryz.func289 (aH (aE (by kernel_rfl))) ⟨zs1,fun x=>x.1.1⟩ (fun x=>by kernel_rfl)
def afw:bo K:=bA D false 75 0 [0,7,8] [0,2] Hr (fun x=>M.s8 x.1.1 x.1.2.1 ae x.1.2.2.1) MQ
def xI(m:(List UInt8)->Option Bool):az K:=cB 104 ib (fun x=>m x.1.1)
def Ju:Cx K:=aT [] [] [(2,afw)]
theorem afx:aK Ju:=aO ak _ an
theorem avD:bp Ju (bm (bw Tryz.f104) 0) afw:=bB (cx:=Ju) (sh:=Hr) (run:=fun n x=>M.s8 x.1.1 x.1.2.1 n x.1.2.2.1) (bq:=MS) ak afx aW (aE (by kernel_rfl)) (fun _=>rfl) (fun m x=>by kernel_rfl) (af ⟨cm,fun _ _ _=>rfl⟩ (af ⟨bC,fun _ _ _=>rfl⟩ an)) false ae
theorem AE:aj (xI (M.jD)):=aL (cx:=Ju) true afx Tryz.func104 (aH (bH 1 (by kernel_rfl) (bI (.mk (by kernel_rfl) avD)))) ⟨zs0,fun x=>x.1.1⟩ (fun x=>by kernel_rfl)
def afy(m:(List UInt8)->Option Bool):az K:=cB 333 ib (fun x=>m x.1.1)
def LX:Cx K:=aT [(104,.plain)] [xI M.jD] []
theorem SX:aK LX:=aO ak _ (af AE an)
theorem avE:aj (afy (M.DJ)):=aL (cx:=LX) true SX Tryz.func333 (aH (aE (by kernel_rfl))) ⟨zs0,fun x=>x.1.1⟩ (fun x=>by kernel_rfl)
def afz:bo K:=bA D false 19 0 [0,1,7,8] [4] acO (fun x=>M.vY x.1.1 x.1.2.2.1 ae x.1.2.2.2.1) iJ
def afA(m:(List (List UInt8))->Option Int):az K:=cI 203 ⟨[.ah U.str,.fn 333 []],[]⟩ (fun x=>m x.1.1)
def Jv:Cx K:=aT [(333,.plain)] [afy M.DJ] [(2,afz)]
theorem afB:aK Jv:=aO ak _ (af avE an)
theorem avF:bp Jv (bm (bw Tryz.f203) 0) afz:=bB (cx:=Jv) (sh:=acO) (run:=fun n x=>M.vY x.1.1 x.1.2.2.1 n x.1.2.2.2.1) (bq:=iK) ak afB aW (aE (by kernel_rfl)) (fun _=>rfl) (fun m x=>by kernel_rfl) (af ⟨cm,fun _ _ _=>rfl⟩ (af ⟨bC,fun _ _ _=>rfl⟩ an)) false ae
theorem avG:aj (afA (M.Jw)):=aL (cx:=Jv) true afB Tryz.func203 (aH (bH 1 (by kernel_rfl) (bI (.mk (by kernel_rfl) avF)))) ⟨zs1,fun x=>x.1.1⟩ (fun x=>by kernel_rfl)
def afC(m:(List (List UInt8))->Option Bool):az K:=cB 166 ⟨[.ah U.str,.fn 333 []],[]⟩ (fun x=>m x.1.1)
def afD:Cx K:=aT [(203,.plain)] [afA M.Jw] []
theorem avH:aK afD:=aO ak _ (af avG an)
theorem avI:aj (afC (M.DK)):=aL (cx:=afD) true avH Tryz.func166 (aH (aE (by kernel_rfl))) ⟨zs0,fun x=>x.1.1⟩ (fun x=>by kernel_rfl)
def afE(m:(List (List UInt8))->Option Bool):az K:=cB 286 pS (fun x=>m x.1.1)
def afF:Cx K:=aT [(289,.plain),(109,.plain),(148,.plain),(166,.plain)] [NN M.NP,mU M.mV,xJ M.kM,afC M.DK] []
theorem avJ:aK afF:=aO ak _ (af afv (af ot (af FX (af avI an))))
theorem avK:aj (afE (M.DL)):=aL (cx:=afF) true avJ Tryz.func286 (aH (aE (by kernel_rfl))) ⟨zs0,fun x=>x.1.1⟩ (fun x=>by kernel_rfl)
def NQ(m:(List M.aa)->Option Int):az K:=cI 288 lF (fun x=>m x.1.1)
theorem afG:aj (NQ (M.NR)):=aL (cx:=dU) true dZ Tryz.func288 (aH (aE (by kernel_rfl))) ⟨zs1,fun x=>x.1.1⟩ (fun x=>by kernel_rfl)
def FV(m:M.aa->Option Bool):az K:=cB 182 iv (fun x=>m x.1.1)
theorem LZ:aj (FV (M.FW)):=aL (cx:=dU) true dZ Tryz.func182 (aH (aE (by kernel_rfl))) ⟨zs0,fun x=>x.1.1⟩ (fun x=>by kernel_rfl)
def afH:bo K:=bA D false 19 0 [0,1,7,8] [4] acP (fun x=>M.vZ x.1.1 x.1.2.2.1 ae x.1.2.2.2.1) iJ
def afI(m:(List M.aa)->Option Int):az K:=cI 208 ⟨[.ah U.Type,.fn 182 []],[]⟩ (fun x=>m x.1.1)
def Jy:Cx K:=aT [(182,.plain)] [FV M.FW] [(2,afH)]
theorem afJ:aK Jy:=aO ak _ (af LZ an)
theorem avL:bp Jy (bm (bw Tryz.f208) 0) afH:=bB (cx:=Jy) (sh:=acP) (run:=fun n x=>M.vZ x.1.1 x.1.2.2.1 n x.1.2.2.2.1) (bq:=iK) ak afJ aW (aE (by kernel_rfl)) (fun _=>rfl) (fun m x=>by kernel_rfl) (af ⟨cm,fun _ _ _=>rfl⟩ (af ⟨bC,fun _ _ _=>rfl⟩ an)) false ae
theorem avM:aj (afI (M.Jz)):=aL (cx:=Jy) true afJ Tryz.func208 (aH (bH 1 (by kernel_rfl) (bI (.mk (by kernel_rfl) avL)))) ⟨zs1,fun x=>x.1.1⟩ (fun x=>by kernel_rfl)
def afK(m:(List M.aa)->Option Bool):az K:=cB 172 ⟨[.ah U.Type,.fn 182 []],[]⟩ (fun x=>m x.1.1)
def afL:Cx K:=aT [(208,.plain)] [afI M.Jz] []
theorem avN:aK afL:=aO ak _ (af avM an)
theorem avO:aj (afK (M.DN)):=aL (cx:=afL) true avN Tryz.func172 (aH (aE (by kernel_rfl))) ⟨zs0,fun x=>x.1.1⟩ (fun x=>by kernel_rfl)
def afM(m:M.aa->Int->Option Bool):az K:=cB 287 CS (fun x=>m x.1.1 x.1.2.1)
def afN:Cx K:=aT [(288,.plain),(172,.plain)] [NQ M.NR,afK M.DN] []
theorem avP:aK afN:=aO ak _ (af afG (af avO an))
theorem avQ:aj (afM (M.s9)):=aL (cx:=afN) true avP Tryz.func287 (aH (aE (by kernel_rfl))) ⟨zs0,fun x=>x.1.1⟩ (fun x=>by kernel_rfl)
def afO:bo K:=bA D false 19 0 [0,1,7,8] [4] acQ (fun x=>M.v7 x.1.1 x.1.2.1 x.1.2.2.1 ae x.1.2.2.2.1) iJ
def afP(m:(List Int)->Int->Option Int):az K:=cI 246 ⟨[.ah U.i64,.int .i64],[]⟩ (fun x=>m x.1.1 x.1.2.1)
def JA:Cx K:=aT [] [] [(2,afO)]
theorem afQ:aK JA:=aO ak _ an
theorem avR:bp JA (bm (bw Tryz.f246) 0) afO:=bB (cx:=JA) (sh:=acQ) (run:=fun n x=>M.v7 x.1.1 x.1.2.1 x.1.2.2.1 n x.1.2.2.2.1) (bq:=iK) ak afQ aW (aE (by kernel_rfl)) (fun _=>rfl) (fun m x=>by kernel_rfl) (af ⟨cm,fun _ _ _=>rfl⟩ (af ⟨bC,fun _ _ _=>rfl⟩ an)) false ae
theorem avS:aj (afP (M.JB)):=aL (cx:=JA) true afQ Tryz.func246 (aH (bH 1 (by kernel_rfl) (bI (.mk (by kernel_rfl) avR)))) ⟨zs1,fun x=>x.1.1⟩ (fun x=>by kernel_rfl)
def afR(m:(List Int)->Int->Option Bool):az K:=cB 209 ⟨[.ah U.i64,.int .i64],[]⟩ (fun x=>m x.1.1 x.1.2.1)
def afS:Cx K:=aT [(246,.plain)] [afP M.JB] []
theorem avT:aK afS:=aO ak _ (af avS an)
theorem avU:aj (afR (M.DO)):=aL (cx:=afS) true avT Tryz.func209 (aH (aE (by kernel_rfl))) ⟨zs0,fun x=>x.1.1⟩ (fun x=>by kernel_rfl)
def jE(m:M.aa->(List Int)->Option Bool):az K:=cB 175 ⟨[.el U.Type,.ah U.i64],[]⟩ (fun x=>m x.1.1 x.1.2.1)
def afT(m:M.aa->(List Int)->Option Bool):az K:=cB 210 ⟨[.el U.Type,.rp U.m4 0],[]⟩ (fun x=>m x.1.1 x.1.2.1)
def afU(cM:M.aa->(List Int)->Option Bool):Cx K:=aT [(175,.plain)] [jE cM] []
theorem avV(cM:M.aa->(List Int)->Option Bool)(i7:aj (jE cM)):aK (afU cM):=aO ak _ (af i7 an)
theorem avW(cM:M.aa->(List Int)->Option Bool)(i7:aj (jE cM)):aj (afT (M.DR cM)):=fb (cx:=afU cM) (fz:=true) ak (avV cM i7) aW ⟨Tryz.func210,by kernel_rfl⟩ (aH (aE (by kernel_rfl))) ⟨zs0,fun x=>x.1.1⟩ (fun x=>rfl) (fun x=>by kernel_rfl)
def afV(cM:M.aa->(List Int)->Option Bool):bo K:=bA D false 19 0 [0,1,7,8] [4] acR (fun x=>M.v8 cM x.1.1 x.1.2.1.1 x.1.2.2.1 ae x.1.2.2.2.1) iJ
def afW(m:(List M.aa)->(List Int)->Option Int):az K:=cI 208 acS (fun x=>m x.1.1 x.1.2.1.1)
def JC(cM:M.aa->(List Int)->Option Bool):Cx K:=aT [(210,.plain)] [afT (M.DR cM)] [(2,afV cM)]
theorem afX(cM:M.aa->(List Int)->Option Bool)(i7:aj (jE cM)):aK (JC cM):=aO ak _ (af (avW cM i7) an)
theorem avX(cM:M.aa->(List Int)->Option Bool)(i7:aj (jE cM)):bp (JC cM) (bm (bw Tryz.f208) 0) (afV cM):=bB (cx:=JC cM) (sh:=acR) (run:=fun n x=>M.v8 cM x.1.1 x.1.2.1.1 x.1.2.2.1 n x.1.2.2.2.1) (bq:=iK) ak (afX cM i7) aW (aE (by kernel_rfl)) (fun _=>rfl) (fun m x=>by kernel_rfl) (af ⟨cm,fun _ _ _=>rfl⟩ (af ⟨bC,fun _ _ _=>rfl⟩ an)) false ae
theorem avY(cM:M.aa->(List Int)->Option Bool)(i7:aj (jE cM)):aj (afW (M.JD cM)):=fb (cx:=JC cM) (fz:=true) ak (afX cM i7) aW ⟨Tryz.func208,by kernel_rfl⟩ (aH (bH 1 (by kernel_rfl) (bI (.mk (by kernel_rfl) (avX cM i7))))) ⟨zs1,fun x=>x.1.1⟩ (fun x=>rfl) (fun x=>by kernel_rfl)
def afY(m:(List M.aa)->(List Int)->Option Bool):az K:=cB 172 acS (fun x=>m x.1.1 x.1.2.1.1)
def afZ(cM:M.aa->(List Int)->Option Bool):Cx K:=aT [(208,.plain)] [afW (M.JD cM)] []
theorem avZ(cM:M.aa->(List Int)->Option Bool)(i7:aj (jE cM)):aK (afZ cM):=aO ak _ (af (avY cM i7) an)
theorem av1(cM:M.aa->(List Int)->Option Bool)(i7:aj (jE cM)):aj (afY (M.DT cM)):=fb (cx:=afZ cM) (fz:=true) ak (avZ cM i7) aW ⟨Tryz.func172,by kernel_rfl⟩ (aH (aE (by kernel_rfl))) ⟨zs0,fun x=>x.1.1⟩ (fun x=>rfl) (fun x=>by kernel_rfl)
def af0(cM:M.aa->(List Int)->Option Bool):Cx K:=aT [(209,.plain),(172,.plain)] [afR M.DO,afY (M.DT cM)] []
theorem av2(cM:M.aa->(List Int)->Option Bool)(i7:aj (jE cM)):aK (af0 cM):=aO ak _ (af avU (af (av1 cM i7) an))
theorem av3(cM:M.aa->(List Int)->Option Bool)(i7:aj (jE cM)):aj (jE (M.JE cM)):=fb (cx:=af0 cM) (fz:=true) ak (av2 cM i7) aW ⟨Tryz.func175,by kernel_rfl⟩ (aH (aE (by kernel_rfl))) ⟨zs0,fun x=>x.1.1⟩ (fun x=>rfl) (fun x=>by kernel_rfl)
theorem af1:∀n,aj (jE (M.mn n))|0=>ic fun _=>rfl|n+1=>av3 (M.mn n) (af1 n)
theorem L0:aj (jE (M.j0)):=af1 ae
def af2(cL:M.aa->Option Bool):Cx K:=aT [(172,.plain),(109,.plain),(286,.plain),(104,.plain),(287,.plain),(288,.plain),(289,.plain),(175,.plain)] [aft (M.yD cL),mU M.mV,afE M.DL,xI M.jD,afM M.s9,NQ M.NR,NN M.NP,jE M.j0] []
theorem av4(cL:M.aa->Option Bool)(i6:aj (kL cL)):aK (af2 cL):=aO ak _ (af (avC cL i6) (af ot (af avK (af AE (af avQ (af afG (af afv (af L0 an))))))))
theorem av5(cL:M.aa->Option Bool)(i6:aj (kL cL)):aj (kL (M.DU cL)):=fb (cx:=af2 cL) (fz:=true) ak (av4 cL i6) aW ⟨Tryz.func245,by kernel_rfl⟩ (aH (aE (by kernel_rfl))) ⟨zs0,fun x=>x.1.1⟩ (fun x=>rfl) (fun x=>by kernel_rfl)
theorem af4:∀n,aj (kL (M.qk n))|0=>ic fun _=>rfl|n+1=>av5 (M.qk n) (af4 n)
theorem amU:aj (kL (M.FT)):=af4 ae
def MG(m:M.aa->Option Bool):az K:=cB 192 iv (fun x=>m x.1.1)
def af5:Cx K:=aT [(222,.plain),(223,.plain)] [sS M.Jg,sX M.Jn] []
theorem av6:aK af5:=aO ak _ (af avc (af avr an))
theorem Wb:aj (MG (M.rQ)):=aL (cx:=af5) true av6 Tryz.func192 (aH (aE (by kernel_rfl))) ⟨zs0,fun x=>x.1.1⟩ (fun x=>by kernel_rfl)
def af6(m:M.al->Int->Option Int):az K:=cI 220 ⟨[.el U.Param,.int .i64],[]⟩ (fun x=>m x.1.1 x.1.2.1)
def af7:Cx K:=aT [(190,.plain)] [m7 M.yw] []
theorem av7:aK af7:=aO ak _ (af aeP an)
theorem av8:aj (af6 (M.DV)):=aL (cx:=af7) true av7 Tryz.func220 (aH (aE (by kernel_rfl))) ⟨zs1,fun x=>x.1.1⟩ (fun x=>by kernel_rfl)
def af8:bo K:=bA D false 27 0 [0,1,5] [1,4] ID (fun x=>M.wa x.1.1 ae x.1.2.1 x.1.2.2.1) lD
def af9(m:(List M.al)->Int->Option Int):az K:=cI 189 ⟨[.ah U.Param,.int .i64],[]⟩ (fun x=>m x.1.1 x.1.2.1)
def JF:Cx K:=aT [(220,.plain)] [af6 M.DV] [(5,af8)]
theorem aga:aK JF:=aO ak _ (af av8 an)
theorem av9:bp JF (bm (bw Tryz.f189) 0) af8:=bB (cx:=JF) (sh:=ID) (run:=fun n x=>M.wa x.1.1 n x.1.2.1 x.1.2.2.1) (bq:=lE) ak aga aW (aE (by kernel_rfl)) (fun _=>rfl) (fun m x=>by kernel_rfl) (af ⟨cm,fun _ _ _=>rfl⟩ (af ⟨bC,fun _ _ _=>rfl⟩ an)) false ae
theorem awc:aj (af9 (M.DW)):=aL (cx:=JF) true aga Tryz.func189 (aH (bH 1 (by kernel_rfl) (bI (.mk (by kernel_rfl) av9)))) ⟨zs1,fun x=>x.1.1⟩ (fun x=>by kernel_rfl)
def agb(m:M.av->Int->Option Int):az K:=cI 153 ⟨[.el U.eK,.int .i64],[]⟩ (fun x=>m x.1.1 x.1.2.1)
def agc:Cx K:=aT [(189,.plain),(190,.plain)] [af9 M.DW,m7 M.yw] []
theorem awd:aK agc:=aO ak _ (af awc (af aeP an))
theorem awe:aj (agb (M.DX)):=aL (cx:=agc) true awd Tryz.func153 (aH (aE (by kernel_rfl))) ⟨zs1,fun x=>x.1.1⟩ (fun x=>by kernel_rfl)
def agd(m:M.aD->Int->Option Int):az K:=cI 122 ⟨[.el U.Func,.int .i64],[]⟩ (fun x=>m x.1.1 x.1.2.1)
def age:Cx K:=aT [(153,.plain)] [agb M.DX] []
theorem awf:aK age:=aO ak _ (af awe an)
theorem awg:aj (agd (M.DY)):=aL (cx:=age) true awf Tryz.func122 (aH (aE (by kernel_rfl))) ⟨zs1,fun x=>x.1.1⟩ (fun x=>by kernel_rfl)
def agf:bo K:=bA D false 27 0 [0,1,5] [1,4] acT (fun x=>M.wb x.1.1 ae x.1.2.1 x.1.2.2.1) lD
def agh(m:(List M.aD)->Int->Option Int):az K:=cI 86 ⟨[.ah U.Func,.int .i64],[]⟩ (fun x=>m x.1.1 x.1.2.1)
def JG:Cx K:=aT [(122,.plain)] [agd M.DY] [(5,agf)]
theorem agi:aK JG:=aO ak _ (af awg an)
theorem awh:bp JG (bm (bw Tryz.f86) 0) agf:=bB (cx:=JG) (sh:=acT) (run:=fun n x=>M.wb x.1.1 n x.1.2.1 x.1.2.2.1) (bq:=lE) ak agi aW (aE (by kernel_rfl)) (fun _=>rfl) (fun m x=>by kernel_rfl) (af ⟨cm,fun _ _ _=>rfl⟩ (af ⟨bC,fun _ _ _=>rfl⟩ an)) false ae
theorem awi:aj (agh (M.DZ)):=aL (cx:=JG) true agi Tryz.func86 (aH (bH 1 (by kernel_rfl) (bI (.mk (by kernel_rfl) awh)))) ⟨zs1,fun x=>x.1.1⟩ (fun x=>by kernel_rfl)
def agj(m:M.ar->Int->Option Int):az K:=cI 51 ⟨[.el U.aQ,.int .i64],[]⟩ (fun x=>m x.1.1 x.1.2.1)
def agk:Cx K:=aT [(85,.plain),(86,.plain)] [NL M.vP,agh M.DZ] []
theorem awj:aK agk:=aO ak _ (af aeJ (af awi an))
theorem awk:aj (agj (M.D1)):=aL (cx:=agk) true awj Tryz.func51 (aH (aE (by kernel_rfl))) ⟨zs1,fun x=>x.1.1⟩ (fun x=>by kernel_rfl)
def agl:bo K:=bA D false 27 0 [0,1,5] [1,4] FI (fun x=>M.wc x.1.1 ae x.1.2.1 x.1.2.2.1) lD
def Ve(m:(List M.ar)->Int->Option Int):az K:=cI 17 LQ (fun x=>m x.1.1 x.1.2.1)
def JH:Cx K:=aT [(51,.plain)] [agj M.D1] [(5,agl)]
theorem agm:aK JH:=aO ak _ (af awk an)
theorem awl:bp JH (bm (bw Tryz.f17) 0) agl:=bB (cx:=JH) (sh:=FI) (run:=fun n x=>M.wc x.1.1 n x.1.2.1 x.1.2.2.1) (bq:=lE) ak agm aW (aE (by kernel_rfl)) (fun _=>rfl) (fun m x=>by kernel_rfl) (af ⟨cm,fun _ _ _=>rfl⟩ (af ⟨bC,fun _ _ _=>rfl⟩ an)) false ae
theorem an4:aj (Ve (M.xQ)):=aL (cx:=JH) true agm Tryz.func17 (aH (bH 1 (by kernel_rfl) (bI (.mk (by kernel_rfl) awl)))) ⟨zs1,fun x=>x.1.1⟩ (fun x=>by kernel_rfl)
def awm(y:Int⊕((List UInt8)×Int×Int×Int)){R:Type}(k:KT R):R:=match y with|.inl a0=>kk k Ex.ret acU (((),((),((),((),(a0,()))))),())|.inr a1=>kk k (Ex.exit 0) acV ((a1.1,(a1.2.1,(a1.2.2.1,(a1.2.2.2,((),()))))),())
def awn:List (cF K ((Int)⊕((List UInt8)×Int×Int×Int))):=[⟨Ex.ret,acU,fun x=>.inl x.1.2.2.2.2.1⟩,⟨(Ex.exit 0),acV,fun x=>.inr ((x.1.1,x.1.2.1,x.1.2.2.1,x.1.2.2.2.1))⟩]
def agn:bo K:=bA D false 71 0 [0,3,4,5,6] [0,3,4,5,2] acW (fun x=>M.oR x.1.1 ae x.1.2.1 x.1.2.2.1 x.1.2.2.2.1 x.1.2.2.2.2.1) awm
def wd(m:Int->Option ((List UInt8))):az K:=cS 191 zs1 (fun x=>m x.1.1)
def agp(mo:Int->Option ((List UInt8))):Cx K:=aT [(191,.plain)] [wd mo] []
theorem awo(mo:Int->Option ((List UInt8)))(NS:aj (wd mo)):aK (agp mo):=aO ak _ (af NS an)
theorem awp(mo:Int->Option ((List UInt8)))(NS:aj (wd mo)):aj (wd (M.yE mo)):=fb (cx:=agp mo) (fz:=true) ak (awo mo NS) aW ⟨Tryz.func191,by kernel_rfl⟩ (aH (aE (by kernel_rfl))) ⟨ib,fun x=>x.1.1⟩ (fun x=>rfl) (fun x=>by kernel_rfl)
theorem agq:∀n,aj (wd (M.oS n))|0=>ic fun _=>rfl|n+1=>awp (M.oS n) (agq n)
theorem awq:aj (wd (M.we)):=agq ae
def agr(m:Int->Option ((List UInt8))):az K:=cS 154 zs1 (fun x=>m x.1.1)
def ags:Cx K:=aT [(191,.plain)] [wd M.we] []
theorem awr:aK ags:=aO ak _ (af awq an)
theorem aws:aj (agr (M.D2)):=aL (cx:=ags) true awr Tryz.func154 (aH (aE (by kernel_rfl))) ⟨ib,fun x=>x.1.1⟩ (fun x=>by kernel_rfl)
def agt(m:(List UInt8)->Option Int):az K:=cI 124 ib (fun x=>m x.1.1)
def JI:Cx K:=aT [(92,.plain),(154,.plain)] [pX M.pY,agr M.D2] [(3,agn)]
theorem agu:aK JI:=aO ak _ (af rK (af aws an))
theorem awt:bp JI (bm (bw Tryz.f124) 0) agn:=bB (cx:=JI) (sh:=acW) (run:=fun n x=>M.oR x.1.1 n x.1.2.1 x.1.2.2.1 x.1.2.2.2.1 x.1.2.2.2.2.1) (bq:=awn) ak agu aW (aE (by kernel_rfl)) (fun _=>rfl) (fun m x=>by kernel_rfl) (af ⟨cm,fun _ _ _=>rfl⟩ (af ⟨bC,fun _ _ _=>rfl⟩ an)) false ae
theorem awu:aj (agt (M.D3)):=aL (cx:=JI) true agu Tryz.func124 (aH (bH 1 (by kernel_rfl) (bI (.mk (by kernel_rfl) awt)))) ⟨zs1,fun x=>x.1.1⟩ (fun x=>by kernel_rfl)
def MP(m:(List UInt8)->Option Bool):az K:=cB 90 ib (fun x=>m x.1.1)
def agv:Cx K:=aT [(124,.plain)] [agt M.D3] []
theorem awv:aK agv:=aO ak _ (af awu an)
theorem Xi:aj (MP (M.u0)):=aL (cx:=agv) true awv Tryz.func90 (aH (aE (by kernel_rfl))) ⟨zs0,fun x=>x.1.1⟩ (fun x=>by kernel_rfl)
def aww(y:Bool⊕(M.ar)){R:Type}(k:KT R):R:=match y with|.inl a0=>kk k Ex.ret xU (((),(a0,())),((),()))|.inr a1=>kk k (Ex.exit 0) ⟨[.ptr 0 0,.any],[.el U.aQ]⟩ (((),((),())),(a1,()))
def awx:List (cF K ((Bool)⊕(M.ar))):=[⟨Ex.ret,xU,fun x=>.inl x.1.2.1⟩,⟨(Ex.exit 0),⟨[.ptr 0 0,.any],[.el U.aQ]⟩,fun x=>.inr (x.2.1)⟩]
def agw:bo K:=bA D false 122 1 [1,3] [1,2] IJ (fun x=>M.oU x.2.1 ae x.1.2.1) aww
def awy(y:Bool⊕(Int×M.av)){R:Type}(k:KT R):R:=match y with|.inl a0=>kk k Ex.ret xH (((),((),(a0,()))),((),((),())))|.inr a1=>kk k (Ex.exit 2) acX (((),(a1.1,((),()))),(a1.2,((),())))
def awz:List (cF K ((Bool)⊕(Int×M.av))):=[⟨Ex.ret,xH,fun x=>.inl x.1.2.2.1⟩,⟨(Ex.exit 2),acX,fun x=>.inr ((x.1.2.1,x.2.1))⟩]
def agx:bo K:=bA D false 63 2 [1,3,4,5] [1,3,2] acY (fun x=>M.oV x.1.2.1 ae x.1.2.2.2.1 x.2.1 x.2.2.1) awy
def agy:bo K:=bA D false 63 1 [1,3] [2] FG (fun x=>M.oW ae x.1.2.1 x.2.1) rx
def agz(m:M.av->Option Bool):az K:=cB 155 lC (fun x=>m x.1.1)
def yF:Cx K:=aT [(192,.plain),(157,.plain),(89,.plain)] [MG M.rQ,oo M.jC,ye M.jF] [(10,agx),(4,agy)]
theorem NT:aK yF:=aO ak _ (af Wb (af LP (af By an)))
theorem awC:bp yF (bm (bm (bw Tryz.f155) 0) 0) agx:=bB (cx:=yF) (sh:=acY) (run:=fun n x=>M.oV x.1.2.1 n x.1.2.2.2.1 x.2.1 x.2.2.1) (bq:=awz) ak NT aW (aE (by kernel_rfl)) (fun _=>rfl) (fun m x=>by kernel_rfl) (af ⟨cm,fun _ _ _=>rfl⟩ (af ⟨bC,fun _ _ _=>rfl⟩ an)) false ae
theorem awD:bp yF (bm (bw Tryz.f155) 0) agy:=bB (cx:=yF) (sh:=FG) (run:=fun n x=>M.oW n x.1.2.1 x.2.1) (bq:=ry) ak NT aW (bH 1 (by kernel_rfl) (bI (.mk (by kernel_rfl) awC))) (fun _=>rfl) (fun m x=>by kernel_rfl) (af ⟨cm,fun _ _ _=>rfl⟩ (af ⟨bC,fun _ _ _=>rfl⟩ an)) false ae
theorem awE:aj (agz (M.D4)):=aL (cx:=yF) true NT Tryz.func155 (aH (bH 1 (by kernel_rfl) (bI (.mk (by kernel_rfl) awD)))) ⟨zs0,fun x=>x.1.1⟩ (fun x=>by kernel_rfl)
def awF(y:(List UInt8)×Bool×(List (List UInt8))){R:Type}(k:KT R):R:=match y with|a0=>kk k (Ex.exit 0) acZ ((a0.1,((),(a0.2.1,()))),((),(a0.2.2,())))
def awG:List (cF K ((List UInt8)×Bool×(List (List UInt8)))):=[⟨(Ex.exit 0),acZ,fun x=>(x.1.1,x.1.2.2.1,x.2.2.1)⟩]
def agA:bo K:=bA D false 49 1 [0,1,5,6,7] [1,5,6] ac0 (fun x=>M.ta x.1.1 x.1.2.1 ae x.1.2.2.2.1 x.1.2.2.2.2.1 x.2.2.1) awF
def agB(m:(List (List UInt8))->(List UInt8)->Option ((List (List UInt8)))):az K:={f:=224,sh:=L6,R:=(List (List UInt8)),run:=fun x=>m x.1.1 x.1.2.1,dflt:=default,out:=fun r=>(Sh.enc D (.ah U.str) r,aU.encs D [] ())}
def JJ:Cx K:=aT [] [] [(4,agA)]
theorem agC:aK JJ:=aO ak _ an
theorem awH:bp JJ (bm (bw Tryz.f224) 0) agA:=bB (cx:=JJ) (sh:=ac0) (run:=fun n x=>M.ta x.1.1 x.1.2.1 n x.1.2.2.2.1 x.1.2.2.2.2.1 x.2.2.1) (bq:=awG) ak agC aW (aE (by kernel_rfl)) (fun _=>rfl) (fun m x=>by kernel_rfl) (af ⟨bC,fun _ _ _=>rfl⟩ an) false ae
theorem awI:aj (agB (M.D5)):=aL (cx:=JJ) true agC Tryz.func224 (aH (bH 1 (by kernel_rfl) (bI (.mk (by kernel_rfl) awH)))) ⟨pS,fun x=>x.1.1⟩ (fun x=>by kernel_rfl)
def tc(m:M.aa->(List (List UInt8))->Option ((List (List UInt8)))):az K:={f:=193,sh:=⟨[.el U.Type,.ah U.str],[]⟩,R:=(List (List UInt8)),run:=fun x=>m x.1.1 x.1.2.1,dflt:=default,out:=fun r=>(Sh.enc D (.ah U.str) r,aU.encs D [] ())}
def awJ(y:(List (List UInt8))){R:Type}(k:KT R):R:=match y with|a0=>kk k (Ex.exit 0) ⟨[.ah U.str],[.dead]⟩ ((a0,()),((),()))
def awK:List (cF K ((List (List UInt8)))):=[⟨(Ex.exit 0),⟨[.ah U.str],[.dead]⟩,fun x=>x.1.1⟩]
def agD(fK:M.aa->(List (List UInt8))->Option ((List (List UInt8)))):bo K:=bA D false 28 1 [1,2,5] [1] ac1 (fun x=>M.ql fK ae x.1.1 x.1.2.2.1 x.2.1) awJ
def JK(fK:M.aa->(List (List UInt8))->Option ((List (List UInt8)))):Cx K:=aT [(224,.ez),(193,.ez)] [agB M.D5,tc fK] [(4,agD fK)]
theorem agE(fK:M.aa->(List (List UInt8))->Option ((List (List UInt8))))(yG:aj (tc fK)):aK (JK fK):=aO ak _ (af awI (af yG an))
theorem awL(fK:M.aa->(List (List UInt8))->Option ((List (List UInt8))))(yG:aj (tc fK)):bp (JK fK) (bm (bw Tryz.f193) 0) (agD fK):=bB (cx:=JK fK) (sh:=ac1) (run:=fun n x=>M.ql fK n x.1.1 x.1.2.2.1 x.2.1) (bq:=awK) ak (agE fK yG) aW (aE (by kernel_rfl)) (fun _=>rfl) (fun m x=>by kernel_rfl) (af ⟨bC,fun _ _ _=>rfl⟩ an) false ae
theorem awM(fK:M.aa->(List (List UInt8))->Option ((List (List UInt8))))(yG:aj (tc fK)):aj (tc (M.JL fK)):=fb (cx:=JK fK) (fz:=true) ak (agE fK yG) aW ⟨Tryz.func193,by kernel_rfl⟩ (aH (bH 1 (by kernel_rfl) (bI (.mk (by kernel_rfl) (awL fK yG))))) ⟨pS,fun x=>x.1.1⟩ (fun x=>rfl) (fun x=>by kernel_rfl)
theorem agF:∀n,aj (tc (M.qm n))|0=>ic fun _=>rfl|n+1=>awM (M.qm n) (agF n)
theorem awN:aj (tc (M.yH)):=agF ae
def awO(y:(List (List UInt8))×(List (List UInt8))){R:Type}(k:KT R):R:=match y with|a0=>kk k (Ex.exit 0) ⟨[.ah U.str,.ah U.str],[.dead]⟩ ((a0.1,(a0.2,())),((),()))
def awP:List (cF K ((List (List UInt8))×(List (List UInt8)))):=[⟨(Ex.exit 0),⟨[.ah U.str,.ah U.str],[.dead]⟩,fun x=>(x.1.1,x.1.2.1)⟩]
def agG:bo K:=bA D false 55 1 [1,2,5,6] [1,5] ac2 (fun x=>M.wh x.1.1 ae x.1.2.2.1 x.1.2.2.2.1 x.2.1) awO
def awQ(y:(List (List UInt8))×(List (List UInt8))×Int×Bool){R:Type}(k:KT R):R:=match y with|a0=>kk k (Ex.exit 4) ac3 ((a0.1,(a0.2.1,(a0.2.2.1,(a0.2.2.2,())))),())
def awR:List (cF K ((List (List UInt8))×(List (List UInt8))×Int×Bool)):=[⟨(Ex.exit 4),ac3,fun x=>(x.1.1,x.1.2.1,x.1.2.2.1,x.1.2.2.2.1)⟩]
def agH:bo K:=bA D false 55 0 [1,5,7,8,9] [1,5,7,8] ac4 (fun x=>M.wi x.1.1 x.1.2.1 x.1.2.2.1 ae x.1.2.2.2.1 x.1.2.2.2.2.1) awQ
def awS(y:Bool⊕Unit){R:Type}(k:KT R):R:=match y with|.inl a0=>kk k Ex.ret zs0 ((a0,()),())|.inr a1=>kk k (Ex.exit 2) zs2 (((),()),())
def awT:List (cF K ((Bool)⊕Unit)):=[⟨Ex.ret,zs0,fun x=>.inl x.1.1⟩,⟨(Ex.exit 2),zs2,fun x=>.inr (())⟩]
def agI:bo K:=bA D false 55 0 [1,5,7] [4] IH (fun x=>M.oY ae x.1.1 x.1.2.1 x.1.2.2.1) awS
def agJ(m:M.av->(List (List UInt8))->Option Bool):az K:=cB 156 ⟨[.el U.eK,.ah U.str],[]⟩ (fun x=>m x.1.1 x.1.2.1)
def td:Cx K:=aT [(193,.ez)] [tc M.yH] [(3,agG),(11,agH),(7,agI)]
theorem JM:aK td:=aO ak _ (af awN an)
theorem awU:bp td (bm (bm (bw Tryz.f156) 1) 0) agH:=bB (cx:=td) (sh:=ac4) (run:=fun n x=>M.wi x.1.1 x.1.2.1 x.1.2.2.1 n x.1.2.2.2.1 x.1.2.2.2.2.1) (bq:=awR) ak JM aW (aE (by kernel_rfl)) (fun _=>rfl) (fun m x=>by kernel_rfl) (af ⟨bC,fun _ _ _=>rfl⟩ an) false ae
theorem awV:bp td (bm (bw Tryz.f156) 0) agG:=bB (cx:=td) (sh:=ac2) (run:=fun n x=>M.wh x.1.1 n x.1.2.2.1 x.1.2.2.2.1 x.2.1) (bq:=awP) ak JM aW (aE (by kernel_rfl)) (fun _=>rfl) (fun m x=>by kernel_rfl) (af ⟨bC,fun _ _ _=>rfl⟩ an) false ae
theorem awW:bp td (bm (bw Tryz.f156) 1) agI:=bB (cx:=td) (sh:=IH) (run:=fun n x=>M.oY n x.1.1 x.1.2.1 x.1.2.2.1) (bq:=awT) ak JM aW (bH 1 (by kernel_rfl) (bI (.mk (by kernel_rfl) awU))) (fun _=>rfl) (fun m x=>by kernel_rfl) (af ⟨cm,fun _ _ _=>rfl⟩ (af ⟨bC,fun _ _ _=>rfl⟩ an)) false ae
theorem awX:aj (agJ (M.D6)):=aL (cx:=td) true JM Tryz.func156 (aH (bH 2 (by kernel_rfl) (lt_succ (bI (.mk (by kernel_rfl) awV)) (.mk (by kernel_rfl) awW)))) ⟨zs0,fun x=>x.1.1⟩ (fun x=>by kernel_rfl)
def VE(y:Bool⊕Unit){R:Type}(k:KT R):R:=match y with|.inl a0=>kk k Ex.ret IF ((a0,()),((),()))|.inr a1=>kk k (Ex.exit 2) xY (((),()),((),()))
def VI:List (cF K ((Bool)⊕Unit)):=[⟨Ex.ret,IF,fun x=>.inl x.1.1⟩,⟨(Ex.exit 2),xY,fun x=>.inr (())⟩]
def agK:bo K:=bA D false 122 1 [1,4] [2] IJ (fun x=>M.oZ x.2.1 ae x.1.2.1) VE
def SB(m:M.ar->Option Bool):az K:=cB 125 Aw (fun x=>m x.1.1)
def xB:Cx K:=aT [(89,.plain),(90,.plain),(155,.plain),(156,.plain)] [ye M.jF,MP M.u0,agz M.D4,agJ M.D6] [(4,agw),(9,agK)]
theorem LN:aK xB:=aO ak _ (af By (af Xi (af awE (af awX an))))
theorem amv:bp xB (bm (bw Tryz.f125) 0) agw:=bB (cx:=xB) (sh:=IJ) (run:=fun n x=>M.oU x.2.1 n x.1.2.1) (bq:=awx) ak LN aW (aE (by kernel_rfl)) (fun _=>rfl) (fun m x=>by kernel_rfl) (af ⟨cm,fun _ _ _=>rfl⟩ (af ⟨bC,fun _ _ _=>rfl⟩ an)) false ae
theorem amw:bp xB (bm (bw Tryz.f125) 1) agK:=bB (cx:=xB) (sh:=IJ) (run:=fun n x=>M.oZ x.2.1 n x.1.2.1) (bq:=VI) ak LN aW (aE (by kernel_rfl)) (fun _=>rfl) (fun m x=>by kernel_rfl) (af ⟨cm,fun _ _ _=>rfl⟩ (af ⟨bC,fun _ _ _=>rfl⟩ an)) false ae
