/-
  Part of the proof of the claim.
-/
import Derived.Test.YtdehjkmaaljlpaaGreatDoorXEFM
import Derived.Test.YtdehjkmaaljlpaaGreatDoorXEHdA
import Derived.Test.YtdehjkmaaljlpaaGreatDoorXEHd4
import Derived.Test.YtdehjkmaaljlpaaGreatDoorXEHdV
import Derived.Test.YtdehjkmaaljlpaaGreatDoorXEHdB
import Derived.Test.YtdehjkmaaljlpaaGreatDoorXEHdJ2
import Derived.Test.YtdehjkmaaljlpaaGreatDoorXEHdF
import Derived.Test.YtdehjkmaaljlpaaGreatDoorXWgD
import Derived.Test.YtdehjkmaaljlpaaGreatDoorProg
set_option linter.unusedVariables false
set_option maxRecDepth 100000
open Go Go.Proofs
open Go.V
noncomputable section
abbrev iq0:Go.V.Sh Go.V.K:=.int .i64
abbrev iq2:=Go.V.aK Go.V.K
abbrev zs0:iq2:=⟨[.bool],[]⟩
abbrev zs1:iq2:=⟨[iq0],[]⟩
abbrev zs2:iq2:=⟨[.any],[]⟩
abbrev dO:iq2:=⟨[.str],[]⟩
abbrev yd:iq2:=⟨[.any],[.dead]⟩
abbrev gV:iq2:=⟨[.el U.Type],[]⟩
abbrev zs6:iq2:=⟨[.any,iq0],[]⟩
abbrev zs7:iq2:=⟨[iq0,.any],[]⟩
abbrev iu:iq2:=⟨[.ah U.str],[]⟩
abbrev IN:iq2:=⟨[.bool],[.dead]⟩
abbrev kR:iq2:=⟨[.el U.eG],[]⟩
abbrev oo:iq2:=⟨[.ptr 0 0,.own 2],[.el U.eG,.dead,.arr U.str]⟩
abbrev lM:iq2:=⟨[.ah U.Type],[]⟩
abbrev lL:iq2:=⟨[.el U.fO],[]⟩
abbrev lK:iq2:=⟨[.el U.Module],[]⟩
abbrev GX:iq2:=⟨[.own 1],[.dead,.arr U.i64]⟩
abbrev ox:iq2:=⟨[.ptr 0 0,.str],[.el U.eG]⟩
abbrev oy:iq2:=⟨[.ptr 0 0,.str,iq0],[.el U.eG]⟩
abbrev GR:iq2:=⟨[.any,.bool],[]⟩
abbrev sc:iq2:=⟨[.ah U.i64],[]⟩
abbrev yh:iq2:=⟨[.any,.any,.bool],[]⟩
abbrev Ir:iq2:=⟨[.own 1],[.dead,.arr U.str]⟩
abbrev sg:iq2:=⟨[.rp U.eG 0,iq0,iq0,iq0],[]⟩
abbrev si:iq2:=⟨[.rp U.eG 0,iq0,iq0],[]⟩
abbrev sy:iq2:=⟨[],[]⟩
abbrev yB:iq2:=⟨[.str],[.dead]⟩
abbrev vf:iq2:=⟨[.el U.Ins],[]⟩
abbrev abq:iq2:=⟨[.str,.any],[]⟩
abbrev yb:iq2:=⟨[.el U.Core],[]⟩
abbrev xZ:iq2:=⟨[.any,.bool],[.dead]⟩
abbrev yR:iq2:=⟨[.any,.any,.bool],[.dead,.dead]⟩
abbrev yP:iq2:=⟨[.el U.aT],[]⟩
abbrev ya:iq2:=⟨[.ptr 0 0,iq0],[.el U.Module]⟩
abbrev Dk:iq2:=⟨[.ah U.str,iq0],[]⟩
abbrev B9:iq2:=⟨[.ah U.aT],[]⟩
abbrev BG:iq2:=⟨[.bU [iq0,.bool]],[]⟩
abbrev BH:iq2:=⟨[.rp U.eG 0],[]⟩
abbrev IP:iq2:=⟨[.str,iq0],[]⟩
abbrev abr:iq2:=⟨[.any,.any,.any,.own 5,iq0,iq0],[.dead,.dead,.dead,.dead,.dead,.arr U.CodeBlock]⟩
abbrev abt:iq2:=⟨[.ptr 0 0,.own 3,.own 4,.any,.any,.any],[.el U.Core,.dead,.dead,.arr U.CodeBlock,.arr U.i64]⟩
abbrev IQ:iq2:=⟨[.ah U.str,iq0,iq0],[]⟩
abbrev IS:iq2:=⟨[.el U.Type,iq0],[]⟩
abbrev IT:iq2:=⟨[.ah U.str,.ah U.str,iq0],[]⟩
abbrev IU:iq2:=⟨[.ptr 0 0,iq0],[.el U.Type]⟩
abbrev Hz:iq2:=⟨[.str,iq0,iq0],[]⟩
abbrev IV:iq2:=⟨[.ah U.aT,iq0,iq0],[]⟩
abbrev IW:iq2:=⟨[.ptr 0 0,iq0],[.el U.aT]⟩
abbrev IX:iq2:=⟨[.ptr 0 0,iq0],[.el U.fO]⟩
abbrev abu:iq2:=⟨[.own 1],[.dead,.arr U.Type]⟩
abbrev UM:iq2:=⟨[iq0,iq0,iq0],[.dead]⟩
abbrev UN:iq2:=⟨[.any,.any,.any],[.dead]⟩
abbrev UZ:iq2:=⟨[iq0],[.dead]⟩
abbrev GI:iq2:=⟨[.str,.ptr 0 0,iq0],[.el U.Module]⟩
abbrev GK:iq2:=⟨[.el U.Module,.str],[]⟩
abbrev G0:iq2:=⟨[.ah U.Type,.own 1,iq0],[.dead,.arr U.i64]⟩
abbrev VE:iq2:=⟨[.any,.any,.any,.bool],[]⟩
abbrev VF:iq2:=⟨[.rp U.eG 0,iq0,iq0,.any],[]⟩
abbrev VJ:iq2:=⟨[.rp U.eG 0,iq0,.any],[]⟩
abbrev Hl:iq2:=⟨[.rp U.eG 0,iq0],[]⟩
abbrev HS:iq2:=⟨[.own 1,.ah U.Type,iq0,iq0],[.dead,.arr U.i64]⟩
abbrev Ie:iq2:=⟨[.ptr 0 0,.own 2,.ah U.Lower,iq0,iq0],[.el U.eG,.dead,.arr U.str]⟩
abbrev Ig:iq2:=⟨[.ptr 0 0,.own 2,.ah U.Builtin,iq0,iq0],[.el U.eG,.dead,.arr U.str]⟩
abbrev Ii:iq2:=⟨[.ptr 0 0,.str,iq0],[.el U.aT]⟩
abbrev Ij:iq2:=⟨[.ptr 0 0,.str,iq0],[.el U.Type]⟩
abbrev Im:iq2:=⟨[.ptr 0 0,.str,iq0],[.el U.Module]⟩
abbrev Is:iq2:=⟨[.ptr 0 0,.own 2,.ah U.aT,iq0,iq0],[.el U.eG,.dead,.arr U.str]⟩
abbrev It:iq2:=⟨[.ptr 0 0,.ah U.Core,iq0,iq0],[.box [.np 0,.own 2],.dead,.arr U.u8]⟩
abbrev NJ:iq2:=⟨[.el U.Module,iq0],[]⟩
abbrev NK:iq2:=⟨[.bU [iq0,iq0,.bool]],[]⟩
abbrev MV:iq2:=⟨[.own 0],[.arr U.i64]⟩
abbrev NL:iq2:=⟨[.bU [iq0,iq0]],[]⟩
abbrev NI:iq2:=⟨[.ah U.Import],[]⟩
abbrev NM:iq2:=⟨[.rp U.checker 0,.el U.Ins],[]⟩
abbrev MS:iq2:=⟨[.ah U.Type,iq0],[]⟩
abbrev NN:iq2:=⟨[.ah U.aT,iq0],[]⟩
abbrev NP:iq2:=⟨[.ah U.str,.str],[]⟩
abbrev MQ:iq2:=⟨[.bU [iq0,iq0,iq0]],[]⟩
abbrev abv:iq2:=⟨[.ah U.Import,iq0,iq0],[]⟩
abbrev abw:iq2:=⟨[.ah U.Core,iq0,iq0],[]⟩
abbrev abx:iq2:=⟨[.ptr 0 0,.own 3,.own 4,iq0],[.el U.Core,.dead,.dead,.arr U.CodeBlock,.arr U.i64]⟩
abbrev aby:iq2:=⟨[.rp U.mf 0,iq0,iq0],[]⟩
abbrev abz:iq2:=⟨[.any,.any,.any,.dt,.own 6,iq0,iq0],[.dead,.dead,.dead,.dead,.dead,.dead,.arr U.gw,.dead,.dead]⟩
abbrev abA:iq2:=⟨[.ptr 0 0,.ptr 1 0,.own 5,.any,.any,.any,.any],[.el U.Core,.box [iq0,.ah U.Import,.ah U.Core,.str,iq0,iq0,.bool,.ah U.Ins,.own 6,.own 7,iq0,.bool],.dead,.dead,.dead,.arr U.gw,.arr U.CodeBlock,.arr U.i64]⟩
abbrev abB:iq2:=⟨[.ptr 0 0,.ptr 1 0,.own 5,iq0],[.el U.Core,.box [iq0,.ah U.Import,.ah U.Core,.str,iq0,iq0,.bool,.ah U.Ins,.own 6,.own 7,iq0,.bool],.dead,.dead,.dead,.arr U.gw,.arr U.CodeBlock,.arr U.i64]⟩
abbrev abC:iq2:=⟨[.ptr 0 0,.own 3,.own 4,.ah U.Ins,iq0,iq0],[.el U.Core,.dead,.dead,.arr U.CodeBlock,.arr U.i64]⟩
abbrev abD:iq2:=⟨[.ptr 0 0,.el U.Ins],[.box [iq0,.ah U.Import,.ah U.Core,.str,iq0,iq0,.bool,.ah U.Ins,.ah U.CodeBlock,iq0,.own 1,.own 2,iq0,.bool],.arr U.i64,.arr U.i64]⟩
abbrev abE:iq2:=⟨[iq0],[.box [iq0,.ah U.Import,.ah U.Core,.str,iq0,iq0,.bool,.ah U.Ins,.ah U.CodeBlock,iq0,.own 3,.own 4,iq0,.bool],.dead,.dead,.arr U.i64,.arr U.i64]⟩
abbrev abG:iq2:=⟨[.any,.any,.any,.any,.own 6,.own 7,iq0,iq0],[.dead,.dead,.dead,.dead,.dead,.dead,.tree U.gw,.arr U.CodeBlock,.dead,.dead]⟩
abbrev abH:iq2:=⟨[.ptr 0 0,.ah U.CodeBlock,.ptr 1 0,.own 5,.any,.any,.any,.any],[.el U.Core,.box [iq0,.ah U.Import,.ah U.Core,.str,iq0,iq0,.bool,.ah U.Ins,.ah U.CodeBlock,iq0,.own 6,.own 7,iq0,.bool],.dead,.dead,.dead,.tree U.gw,.arr U.i64,.arr U.i64]⟩
abbrev abI:iq2:=⟨[.ptr 0 0,.ah U.CodeBlock,.ptr 1 0,.own 5,.ah U.Ins,iq0,iq0],[.el U.Core,.box [iq0,.ah U.Import,.ah U.Core,.str,iq0,iq0,.bool,.ah U.Ins,.ah U.CodeBlock,iq0,.own 6,.own 7,iq0,.bool],.dead,.dead,.dead,.tree U.gw,.arr U.i64,.arr U.i64]⟩
abbrev abJ:iq2:=⟨[.ah U.Import,.ah U.Import,iq0],[]⟩
abbrev abK:iq2:=⟨[.ah U.Ins,.ah U.Ins,iq0],[]⟩
abbrev abL:iq2:=⟨[.ah U.Core,.ah U.Core,iq0],[]⟩
abbrev abM:iq2:=⟨[.ah U.Type,iq0,iq0],[]⟩
abbrev abN:iq2:=⟨[.ah U.Type,.ah U.Type,iq0],[]⟩
abbrev abO:iq2:=⟨[.any,.any,iq0,iq0],[.dead]⟩
abbrev abP:iq2:=⟨[iq0,iq0,.any,.any],[.dead]⟩
abbrev abQ:iq2:=⟨[iq0,.ptr 0 0,iq0,iq0,iq0],[.el U.Type]⟩
abbrev abR:iq2:=⟨[iq0,iq0,.ptr 0 0,iq0],[.el U.Type]⟩
abbrev abS:iq2:=⟨[iq0,iq0,.ah U.Type,iq0,iq0],[]⟩
abbrev abT:iq2:=⟨[iq0,.ah U.Type,iq0,iq0],[]⟩
abbrev abU:iq2:=⟨[.ah U.Type,.fn 299 [],iq0,iq0],[]⟩
abbrev abV:iq2:=⟨[.ah U.str,.fn 342 [],iq0,iq0],[]⟩
abbrev abW:iq2:=⟨[.ah U.Type,.fn 140 [],iq0,iq0],[]⟩
abbrev abX:iq2:=⟨[.ah U.i64,iq0,iq0,iq0],[]⟩
abbrev abY:iq2:=⟨[.ah U.Type,.fn 218 [.rp U.mT 0],iq0,iq0],[]⟩
abbrev abZ:iq2:=⟨[.ah U.Type,.fn 218 [.rp U.mT 0]],[]⟩
abbrev ab1:iq2:=⟨[.ah U.Param,iq0,iq0],[]⟩
abbrev ab2:iq2:=⟨[.ah U.Func,iq0,iq0],[]⟩
abbrev ab3:iq2:=⟨[.any,.any,.any,.any,iq0],[]⟩
abbrev ab4:iq2:=⟨[.str,iq0,iq0,iq0,.any],[]⟩
abbrev ab5:iq2:=⟨[.str,iq0,iq0,iq0,iq0],[]⟩
abbrev ab6:iq2:=⟨[.ptr 0 0,iq0,.any],[.el U.fO,.dead]⟩
abbrev ab7:iq2:=⟨[.ptr 0 0,iq0,.ptr 1 0,iq0],[.el U.fO,.el U.Param]⟩
abbrev ab8:iq2:=⟨[.str,.own 1,.bool],[.dead,.arr U.str]⟩
abbrev ab9:iq2:=⟨[.ah U.str,.str,.own 1,.bool,iq0],[.dead,.arr U.str]⟩
abbrev aca:iq2:=⟨[.ah U.str,.ptr 0 0,iq0],[.el U.Type]⟩
abbrev acb:iq2:=⟨[.ah U.str,.ptr 0 0,.ah U.str,iq0],[.el U.fO]⟩
abbrev acd:iq2:=⟨[.ah U.str,.ah U.str,iq0,.bool],[]⟩
abbrev ace:iq2:=⟨[.ah U.str,.ah U.str,iq0,.bool,iq0],[]⟩
abbrev acf:iq2:=⟨[iq0,.ah U.str,iq0,iq0],[]⟩
abbrev acg:iq2:=⟨[.ah U.str,.fn 166 [],iq0,iq0],[]⟩
abbrev ach:iq2:=⟨[.ah U.Param,.own 1,.any],[.dead,.arr U.str]⟩
abbrev aci:iq2:=⟨[.ah U.Param,.own 1,.ah U.Param,iq0,iq0],[.dead,.arr U.str]⟩
abbrev acj:iq2:=⟨[.own 1,.ah U.Type,iq0,iq0],[.dead,.arr U.str]⟩
abbrev ack:iq2:=⟨[.own 1,.ah U.Param,iq0,iq0],[.dead,.arr U.str]⟩
abbrev acm:iq2:=⟨[.ah U.str,.str,iq0,iq0],[]⟩
abbrev acn:iq2:=⟨[.ah U.str,.fn 169 [.rp U.aT 0],iq0,iq0],[]⟩
abbrev aco:iq2:=⟨[.ah U.str,.fn 169 [.rp U.aT 0]],[]⟩
abbrev acp:iq2:=⟨[.own 2,.any],[.dead,.dead,.arr U.str]⟩
abbrev acr:iq2:=⟨[.ptr 0 0,.own 2,.ah U.Func,iq0,iq0],[.el U.aT,.dead,.arr U.str]⟩
abbrev acs:iq2:=⟨[.own 1,.ah U.Param,iq0,iq0],[.dead,.arr U.Type]⟩
abbrev acu:iq2:=⟨[.ah U.Type,.fn 174 [],iq0,iq0],[]⟩
abbrev acv:iq2:=⟨[.ah U.Func,.fn 128 [],iq0,iq0],[]⟩
abbrev acw:iq2:=⟨[.ah U.aT,.own 1,.any],[.dead,.arr U.str]⟩
abbrev acx:iq2:=⟨[.ah U.aT,.own 1,.ah U.aT,iq0,iq0],[.dead,.arr U.str]⟩
abbrev acy:iq2:=⟨[.ah U.Param,.ah U.Param,iq0],[]⟩
abbrev TW:iq2:=⟨[.ah U.Func,.ah U.Func,iq0],[]⟩
abbrev T9:iq2:=⟨[.ah U.aT,.ah U.aT,iq0],[]⟩
abbrev Ue:iq2:=⟨[.ah U.ef,iq0,iq0],[]⟩
abbrev Uj:iq2:=⟨[.ah U.Lower,iq0,iq0],[]⟩
abbrev Uo:iq2:=⟨[.ah U.Builtin,iq0,iq0],[]⟩
abbrev U4:iq2:=⟨[.ptr 1 0,.ptr 2 0],[.dead,.box [iq0,.str,.own 7,.own 8],.box [iq0,.str,.own 9,.own 10],.dead,.dead,.dead,.dead,.arr U.str,.arr U.Type,.arr U.str,.arr U.Type]⟩
abbrev U6:iq2:=⟨[.ptr 0 0,.ptr 1 0,.ptr 2 0,iq0],[.el U.Type,.box [iq0,.str,.own 7,.own 8],.box [iq0,.str,.own 9,.own 10],.dead,.dead,.dead,.dead,.arr U.str,.arr U.Type,.arr U.str,.arr U.Type]⟩
abbrev Va:iq2:=⟨[.ptr 0 0,.own 2,iq0],[.el U.fO,.dead,.arr U.Type]⟩
abbrev Vm:iq2:=⟨[.ah U.i64,.ah U.i64,.own 1,iq0],[.dead,.arr U.i64]⟩
abbrev VX:iq2:=⟨[.ah U.aT,.str,iq0,iq0],[]⟩
abbrev Wn:iq2:=⟨[.ah U.Ins,.fn 260 [],iq0,iq0],[]⟩
abbrev WC:iq2:=⟨[.ah U.ef,.ah U.ef,iq0],[]⟩
abbrev WJ:iq2:=⟨[.ah U.Lower,.ah U.Lower,iq0],[]⟩
abbrev WQ:iq2:=⟨[.ah U.Builtin,.ah U.Builtin,iq0],[]⟩
abbrev WW:iq2:=⟨[.any,.any,.any,.bool],[.dead,.dead,.dead,.dead,.dead]⟩
abbrev WX:iq2:=⟨[.ptr 0 0,.own 3,.own 4,.any],[.el U.Module,.dead,.dead,.arr U.str,.arr U.str]⟩
abbrev WZ:iq2:=⟨[.ptr 0 0,.own 3,.own 4,.ah U.Import,iq0,iq0],[.el U.Module,.dead,.dead,.arr U.str,.arr U.str]⟩
abbrev W0:iq2:=⟨[.any,.any,.bool],[.dead,.dead,.dead,.dead]⟩
abbrev W4:iq2:=⟨[.own 2,.own 3,.any],[.dead,.dead,.arr U.str,.arr U.str]⟩
abbrev W6:iq2:=⟨[.own 2,.own 3,.ah U.Core,iq0,iq0],[.dead,.dead,.arr U.str,.arr U.str]⟩
abbrev Xj:iq2:=⟨[.ah U.str,.fn 262 [],iq0,iq0],[]⟩
abbrev Xr:iq2:=⟨[.ptr 0 0,iq0,iq0],[.el U.Module]⟩
abbrev XA:iq2:=⟨[.own 2,.ah U.aT,iq0,iq0],[.dead,.dead,.arr U.bound]⟩
abbrev XC:iq2:=⟨[.own 2,.ptr 1 0,.ah U.aT,iq0,iq0,.ah U.Func,iq0,iq0],[.dead,.el U.aT,.arr U.bound]⟩
abbrev XE:iq2:=⟨[.own 1,.ah U.aT,iq0,iq0],[.dead,.arr U.bound]⟩
abbrev XJ:iq2:=⟨[.ah U.Core,.fn 179 [.rp U.str 0],iq0,iq0],[]⟩
abbrev XQ:iq2:=⟨[.ah U.i64,.ah U.i64,.own 1,iq0,iq0],[.dead,.arr U.i64]⟩
abbrev X9:iq2:=⟨[.ptr 0 0,.ah U.bound,.ah U.ef,iq0,iq0],[.el U.eG]⟩
abbrev Yf:iq2:=⟨[.ah U.Import,.fn 183 [.rp U.str 0],iq0,iq0],[]⟩
abbrev Yl:iq2:=⟨[.ptr 0 0,.ah U.bound,.ah U.Lower,iq0,iq0],[.el U.eG]⟩
abbrev Yo:iq2:=⟨[.ptr 0 0,.bool],[.el U.aT,.dead,.dead]⟩
abbrev Yp:iq2:=⟨[.ptr 0 0,.any],[.box [.str,.str,.str,.own 3,.own 4],.dead,.dead,.arr U.str,.arr U.Func]⟩
abbrev Yr:iq2:=⟨[.str,.ptr 0 0,.ah U.aT,iq0,iq0],[.box [.str,.str,.str,.own 3,.own 4],.dead,.dead,.arr U.str,.arr U.Func]⟩
abbrev Yy:iq2:=⟨[.ptr 0 0,.ah U.Builtin,iq0,iq0],[.el U.eG]⟩
abbrev YY:iq2:=⟨[.ptr 0 0,.str,iq0],[.el U.fO]⟩
abbrev Zj:iq2:=⟨[.ptr 0 0,.str,iq0],[.el U.Module,.dead]⟩
abbrev Zl:iq2:=⟨[.ptr 0 0,.str,iq0,.ptr 1 0,iq0],[.el U.Module,.el U.Core]⟩
abbrev Zw:iq2:=⟨[.ptr 0 0,.own 2],[.el U.aT,.dead,.arr U.str]⟩
abbrev Zy:iq2:=⟨[.ptr 0 0,.own 2,.ah U.str,iq0,iq0],[.el U.aT,.dead,.arr U.str]⟩
abbrev ZB:iq2:=⟨[.str,.own 1,.ah U.Type,iq0,iq0],[.dead,.arr U.str]⟩
abbrev ZC:iq2:=⟨[.str,.own 2],[.dead,.dead,.arr U.str]⟩
abbrev ZE:iq2:=⟨[.ptr 0 0,.str,.own 2,.ah U.str,iq0,iq0],[.el U.Type,.dead,.arr U.str]⟩
abbrev ZG:iq2:=⟨[.ptr 0 0,.own 2,.str],[.el U.fO,.dead,.arr U.str]⟩
abbrev ZI:iq2:=⟨[.ptr 0 0,.own 2,.str,.ah U.Param,iq0,iq0],[.el U.fO,.dead,.arr U.str]⟩
abbrev ZM:iq2:=⟨[.own 1,.ah U.Func,iq0,iq0],[.dead,.arr U.str]⟩
abbrev ZR:iq2:=⟨[.ptr 0 0,.own 2,.ah U.ef,iq0,iq0],[.el U.eG,.dead,.arr U.str]⟩
abbrev ZX:iq2:=⟨[.ptr 0 0,.ptr 1 0],[.el U.Module,.box [.np 1,.own 3],.dead,.arr U.u8]⟩
abbrev ZZ:iq2:=⟨[.ptr 0 0,.ptr 1 0,.ah U.Import,iq0,iq0],[.el U.Module,.box [.np 1,.own 3],.dead,.arr U.u8]⟩
abbrev Z5:iq2:=⟨[.ptr 0 0,.ah U.Core,iq0,iq0,.ah U.Ins,iq0,iq0],[.box [.np 0,.own 2],.dead,.arr U.u8]⟩
abbrev Z6:iq2:=⟨[.ptr 0 0],[.box [.np 0,.own 2],.dead,.arr U.u8]⟩
abbrev aaf:iq2:=⟨[.ah U.str,.own 1,iq0],[.dead,.arr U.str]⟩
abbrev aaj:iq2:=⟨[.ah U.Type,.own 1,iq0],[.dead,.arr U.Type]⟩
abbrev aau:iq2:=⟨[.ah U.Param,.own 1,iq0],[.dead,.arr U.Param]⟩
abbrev aaC:iq2:=⟨[.ah U.Func,.own 1,iq0],[.dead,.arr U.Func]⟩
abbrev aaI:iq2:=⟨[.ah U.aT,.own 1,iq0],[.dead,.arr U.aT]⟩
abbrev aaN:iq2:=⟨[.ah U.Import,.own 1,iq0],[.dead,.arr U.Import]⟩
abbrev aaS:iq2:=⟨[.ah U.Ins,.own 1,iq0],[.dead,.arr U.Ins]⟩
abbrev aaY:iq2:=⟨[.ah U.Core,.own 1,iq0],[.dead,.arr U.Core]⟩
abbrev aa5:iq2:=⟨[.ah U.ef,.own 1,iq0],[.dead,.arr U.ef]⟩
abbrev aba:iq2:=⟨[.ah U.Lower,.own 1,iq0],[.dead,.arr U.Lower]⟩
abbrev abg:iq2:=⟨[.ah U.Builtin,.own 1,iq0],[.dead,.arr U.Builtin]⟩
def NQ:Go.TypeId->Option U:=gu [(2,U.i64),(3,U.i64),(4,U.bool),(5,U.u8),(6,U.u8),(9,U.str),(10,U.str),(11,U.str),(12,U.u64),(21,U.i32),(22,U.sS),(23,U.sU),(24,U.sV),(26,U.Module),(27,U.sW),(28,U.sX),(29,U.sY),(31,U.eG),(34,U.sS),(35,U.sU),(36,U.sV),(38,U.Module),(39,U.sW),(40,U.sX),(41,U.sY),(43,U.eG),(65,U.vD),(66,U.sZ),(68,U.aT),(73,U.ef),(76,U.Lower),(79,U.Builtin),(86,U.sZ),(88,U.aT),(89,U.ef),(90,U.Lower),(91,U.Builtin),(111,U.Import),(113,U.s6),(115,U.Core),(121,U.vE),(122,U.s7),(123,U.s8),(125,U.Type),(127,U.fO),(129,U.Func),(133,U.Import),(135,U.s6),(137,U.Core),(153,U.Ins),(160,U.s7),(161,U.s8),(163,U.Type),(165,U.fO),(167,U.Func),(177,U.Param),(191,U.vF),(195,U.bound),(206,U.mT),(213,U.Ins),(233,U.u64),(248,U.vG),(264,U.vH),(271,U.u32),(274,U.u64),(283,U.Param),(291,U.mf),(293,U.gw),(308,U.checker),(322,U.mT),(324,U.CodeBlock),(336,U.i64),(350,U.i64),(364,U.u16),(376,U.u64),(401,U.u8),(402,U.u8),(404,U.i32),(405,U.i32)]
def atx:Go.TypeId->List (Option U):=ir [] [(22,[some U.aT]),(23,[some U.Import]),(24,[some U.Core]),(26,[none,some U.Import,some U.Core]),(27,[some U.ef]),(28,[some U.Lower]),(29,[some U.Builtin]),(31,[none,none,some U.aT,some U.aT,none,none,none,some U.Import,some U.Core,some U.ef,some U.Lower,some U.Builtin]),(34,[some U.aT]),(35,[some U.Import]),(36,[some U.Core]),(38,[none,some U.Import,some U.Core]),(39,[some U.ef]),(40,[some U.Lower]),(41,[some U.Builtin]),(43,[none,none,some U.aT,some U.aT,none,none,none,some U.Import,some U.Core,some U.ef,some U.Lower,some U.Builtin]),(65,[some U.str]),(66,[some U.Func]),(68,[none,none,none,some U.str,some U.Func]),(86,[some U.Func]),(88,[none,none,none,some U.str,some U.Func]),(113,[some U.Ins]),(115,[none,none,none,none,some U.Ins]),(121,[some U.u8]),(122,[some U.Param]),(123,[some U.Type]),(125,[none,none,some U.str,some U.Type]),(127,[some U.Param,none,none,some U.str,some U.Type,none]),(129,[none,some U.Param,none,none,some U.str,some U.Type,none]),(135,[some U.Ins]),(137,[none,none,none,none,some U.Ins]),(144,[none,some U.u8]),(160,[some U.Param]),(161,[some U.Type]),(163,[none,none,some U.str,some U.Type]),(165,[some U.Param,none,none,some U.str,some U.Type,none]),(167,[none,some U.Param,none,none,some U.str,some U.Type,none]),(177,[none,none,none,some U.str,some U.Type]),(191,[some U.bound]),(195,[none,none,some U.Param,none,none,some U.str,some U.Type,none]),(206,[some U.i64]),(248,[some U.gw]),(264,[some U.CodeBlock]),(283,[none,none,none,some U.str,some U.Type]),(291,[none,some U.Import,some U.Core,none,none,none,none,some U.Ins,some U.CodeBlock,some U.i64,none,none]),(293,[none,none,some U.i64]),(308,[none,some U.Import,some U.Core,none,none,none,none,some U.Ins,some U.CodeBlock,none,some U.i64,some U.i64,none,none]),(322,[some U.i64])]
theorem cG:Tryz.prog.follows .mixedOrders=true:=by kernel_rfl
abbrev aj(c:ax K):Prop:=c.Ok D Tryz.prog
abbrev KT(R:Type):=Ex->List (AV K)->List (Ob K)->R
def kk{R:Type}(k:KT R)(e:Ex)(s:aK K)(v:s.T):R:=k e (aK.kX D s v) (aK.ahp D s v)
def cB(f:FuncId)(sh:aK K)(run:sh.T->Option Bool):ax K:={f:=f,sh:=sh,R:=Bool,run:=run,dflt:=default,out:=fun r=>(Sh.enc D (.bool) r,bh.encs D [] ())}
def cI(f:FuncId)(sh:aK K)(run:sh.T->Option Int):ax K:={f:=f,sh:=sh,R:=Int,run:=run,dflt:=default,out:=fun r=>(Sh.enc D (.int .i64) r,bh.encs D [] ())}
def cS(f:FuncId)(sh:aK K)(run:sh.T->Option (List UInt8)):ax K:={f:=f,sh:=sh,R:=List UInt8,run:=run,dflt:=default,out:=fun r=>(Sh.enc D (.str) r,bh.encs D [] ())}
def js:Cx K:={P:=Tryz.prog,D:=D,ty:=NQ,mU:=atx,mode:=ir .plain [],call:=callOf D [],loop:=gu []}
def aQ(m:List (FuncId×Go.V.Mode))(c:List (ax K))(l:List (Nat×bo K)):Cx K:={js with mode:=ir .plain m,call:=callOf D c,loop:=gu l}
theorem hq{cx:Cx K}{fn:Func}(h:(ahq (bm fn)).length=0:=by kernel_rfl):∀c,fn.body=some c->gW cx c:=CH (ed h)
theorem hl1{cx:Cx K}{fn:Func}{L:bo K}(o:bn cx (bc (bm fn) 0) L)(h:(ahq (bm fn)).length=1:=by kernel_rfl)(k:cx.loop (keyOf (bc (bm fn) 0))=some L:=by kernel_rfl):∀c,fn.body=some c->gW cx c:=CH (kd 1 h (kQ (.mk k o)))
theorem hl2{cx:Cx K}{fn:Func}{L M:bo K}(o:bn cx (bc (bm fn) 0) L)(p:bn cx (bc (bm fn) 1) M)(h:(ahq (bm fn)).length=2:=by kernel_rfl)(k:cx.loop (keyOf (bc (bm fn) 0))=some L:=by kernel_rfl)(l:cx.loop (keyOf (bc (bm fn) 1))=some M:=by kernel_rfl):∀c,fn.body=some c->gW cx c:=CH (kd 2 h (lt_succ (kQ (.mk k o)) (.mk l p)))
theorem lk{cx:Cx K}{c:Code}{n n0:Nat}{ins outs:List Nat}{sh:aK K}{Y:Type}{run:Nat->sh.T->Option Y}{bu:List (cq K Y)}{out:Y->{R:Type}->(Ex->List (AV K)->List (Ob K)->R)->R}(hc:aJ cx)(hs:∀m x,fw cx c (vI cx.D n ins sh x) (NR cx n n0 ins outs sh (run m) (yS cx.D bu))=run (m+1) x)(hx:∀d∈bu,d.e≠.normal/\∀x (R:Type) (k:Ex->List (AV K)->List (Ob K)->R),out (d.conv x) k=k d.e (d.sh.kX cx.D x) (d.sh.ahp cx.D x))(hl:gW cx c:=by exact ed (by kernel_rfl))(hD:bW cx.D:=by exact aB)(hm:cx.P.follows .mixedOrders=true:=by exact cG)(h0:∀x,run 0 x=none:=by exact fun _=>rfl):bn cx c (bB cx.D false n n0 ins outs sh (run af) out):=dY hD hc hm hl h0 hs hx false af
theorem aH{cx:Cx K}(fz:Bool)(hc:aJ cx){c:ax K}{fn:Func}(hg:cx.P.funcs[c.f]?=some fn)(hl:∀b,fn.body=some b->gW cx b)(d:Dl K cx.D c.R)(he:∀x,IY cx fz fn (c.sh.kX cx.D x) (c.sh.ahp cx.D x) d.fin=c.run x)(hD:bW cx.D:=by exact aB)(hm:cx.P.follows .mixedOrders=true:=by exact cG)(hn:(fn.name== "runtime.NumGoroutine")=false:=by kernel_rfl)(ho:∀x,([(c.out (d.conv x)).1],(c.out (d.conv x)).2)=(d.sh.kX cx.D x,d.sh.ahp cx.D x):=by exact fun x=>rfl):c.Ok cx.D cx.P:=eR hD hc hm ⟨hg,hn⟩ hl d ho he
def acz(m:M.aN->Int->Option Int):ax K:=cI 64 ⟨[.el U.Import,iq0],[]⟩ (fun x=>m x.1.1 x.1.2.1)
def di:Cx K:=aQ [] [] []
theorem dk:aJ di:=aL aB _ ak
theorem aty:aj (acz (M.Dm)):=aH (cx:=di) true dk Tryz.func64 hq ⟨zs1,fun x=>x.1.1⟩ (fun x=>by kernel_rfl)
def oh(y:Int⊕Int){R:Type}(k:KT R):R:=match y with|.inl a0=>kk k Ex.ret zs6 (((),(a0,())),())|.inr a1=>kk k (Ex.exit 0) zs7 ((a1,((),())),())
def oi:List (cq K ((Int)⊕Int)):=[⟨Ex.ret,zs6,fun x=>.inl x.1.2.1⟩,⟨(Ex.exit 0),zs7,fun x=>.inr (x.1.1)⟩]
def acA:bo K:=bB D false 27 0 [0,1,5] [1,4] abv (fun x=>M.vJ x.1.1 af x.1.2.1 x.1.2.2.1) oh
def acB(m:(List M.aN)->Int->Option Int):ax K:=cI 31 ⟨[.ah U.Import,iq0],[]⟩ (fun x=>m x.1.1 x.1.2.1)
def IZ:Cx K:=aQ [(64,.plain)] [acz M.Dm] [(5,acA)]
theorem acC:aJ IZ:=aL aB _ (ae aty ak)
theorem atz:bn IZ (bc (bm Tryz.f31) 0) acA:=lk (cx:=IZ) (sh:=abv) (run:=fun n x=>M.vJ x.1.1 n x.1.2.1 x.1.2.2.1) (bu:=oi) acC (fun m x=>by kernel_rfl) (ae ⟨cn,fun _ _ _=>rfl⟩ (ae ⟨bD,fun _ _ _=>rfl⟩ ak))
theorem atA:aj (acB (M.Dn)):=aH (cx:=IZ) true acC Tryz.func31 (hl1 atz) ⟨zs1,fun x=>x.1.1⟩ (fun x=>by kernel_rfl)
def acD(m:(List M.aG)->Int->Option Int):ax K:=cI 105 ⟨[.ah U.Ins,iq0],[]⟩ (fun x=>m x.1.1 x.1.2.1)
theorem atB:aj (acD (M.Dp)):=aH (cx:=di) true dk Tryz.func105 hq ⟨zs1,fun x=>x.1.1⟩ (fun x=>by kernel_rfl)
def acE(m:M.an->Int->Option Int):ax K:=cI 65 ⟨[.el U.Core,iq0],[]⟩ (fun x=>m x.1.1 x.1.2.1)
def acF:Cx K:=aQ [(105,.plain)] [acD M.Dp] []
theorem atC:aJ acF:=aL aB _ (ae atB ak)
theorem atD:aj (acE (M.Dq)):=aH (cx:=acF) true atC Tryz.func65 hq ⟨zs1,fun x=>x.1.1⟩ (fun x=>by kernel_rfl)
def acG:bo K:=bB D false 27 0 [0,1,5] [1,4] abw (fun x=>M.vK x.1.1 af x.1.2.1 x.1.2.2.1) oh
def acH(m:(List M.an)->Int->Option Int):ax K:=cI 32 ⟨[.ah U.Core,iq0],[]⟩ (fun x=>m x.1.1 x.1.2.1)
def I0:Cx K:=aQ [(65,.plain)] [acE M.Dq] [(5,acG)]
theorem acI:aJ I0:=aL aB _ (ae atD ak)
theorem atE:bn I0 (bc (bm Tryz.f32) 0) acG:=lk (cx:=I0) (sh:=abw) (run:=fun n x=>M.vK x.1.1 n x.1.2.1 x.1.2.2.1) (bu:=oi) acI (fun m x=>by kernel_rfl) (ae ⟨cn,fun _ _ _=>rfl⟩ (ae ⟨bD,fun _ _ _=>rfl⟩ ak))
theorem atF:aj (acH (M.Ds)):=aH (cx:=I0) true acI Tryz.func32 (hl1 atE) ⟨zs1,fun x=>x.1.1⟩ (fun x=>by kernel_rfl)
def Uw(m:M.aM->Int->Option Int):ax K:=cI 10 NJ (fun x=>m x.1.1 x.1.2.1)
def acJ:Cx K:=aQ [(31,.plain),(32,.plain)] [acB M.Dn,acH M.Ds] []
theorem atG:aJ acJ:=aL aB _ (ae atA (ae atF ak))
theorem anC:aj (Uw (M.Bn)):=aH (cx:=acJ) true atG Tryz.func10 hq ⟨zs1,fun x=>x.1.1⟩ (fun x=>by kernel_rfl)
def M5(y:Bool⊕((List UInt8))){R:Type}(k:KT R):R:=match y with|.inl a0=>kk k Ex.ret GR (((),(a0,())),())|.inr a1=>kk k (Ex.exit 0) abq ((a1,((),())),())
def M7:List (cq K ((Bool)⊕((List UInt8)))):=[⟨Ex.ret,GR,fun x=>.inl x.1.2.1⟩,⟨(Ex.exit 0),abq,fun x=>.inr (x.1.1)⟩]
def acK:bo K:=bB D false 49 0 [0,3] [0,2] IP (fun x=>M.vL x.1.1 af x.1.2.1) M5
def MN(m:(List UInt8)->Option Bool):ax K:=cB 116 dO (fun x=>m x.1.1)
def I1:Cx K:=aQ [] [] [(2,acK)]
theorem acL:aJ I1:=aL aB _ ak
theorem atH:bn I1 (bc (bm Tryz.f116) 0) acK:=lk (cx:=I1) (sh:=IP) (run:=fun n x=>M.vL x.1.1 n x.1.2.1) (bu:=M7) acL (fun m x=>by kernel_rfl) (ae ⟨cn,fun _ _ _=>rfl⟩ (ae ⟨bD,fun _ _ _=>rfl⟩ ak))
theorem UE:aj (MN (M.vi)):=aH (cx:=I1) true acL Tryz.func116 (hl1 atH) ⟨zs0,fun x=>x.1.1⟩ (fun x=>by kernel_rfl)
def iW(y:Int⊕Unit){R:Type}(k:KT R):R:=match y with|.inl a0=>kk k Ex.ret zs1 ((a0,()),())|.inr a1=>kk k (Ex.exit 0) zs2 (((),()),())
def iY:List (cq K ((Int)⊕Unit)):=[⟨Ex.ret,zs1,fun x=>.inl x.1.1⟩,⟨(Ex.exit 0),zs2,fun x=>.inr (())⟩]
def acM:bo K:=bB D false 20 0 [0,1,5] [4] ⟨[.ah U.Import,.str,iq0],[]⟩ (fun x=>M.vM x.1.1 x.1.2.1 af x.1.2.2.1) iW
def UH(m:(List M.aN)->(List UInt8)->Option Int):ax K:=cI 117 ⟨[.ah U.Import,.str],[]⟩ (fun x=>m x.1.1 x.1.2.1)
def I2:Cx K:=aQ [] [] [(2,acM)]
theorem acN:aJ I2:=aL aB _ ak
theorem atI:bn I2 (bc (bm Tryz.f117) 0) acM:=lk (cx:=I2) (sh:=⟨[.ah U.Import,.str,iq0],[]⟩) (run:=fun n x=>M.vM x.1.1 x.1.2.1 n x.1.2.2.1) (bu:=iY) acN (fun m x=>by kernel_rfl) (ae ⟨cn,fun _ _ _=>rfl⟩ (ae ⟨bD,fun _ _ _=>rfl⟩ ak))
theorem anK:aj (UH (M.Br)):=aH (cx:=I2) true acN Tryz.func117 (hl1 atI) ⟨zs1,fun x=>x.1.1⟩ (fun x=>by kernel_rfl)
def MM(m:Int->Option (Int×Int×Bool)):ax K:={f:=160,sh:=zs1,R:=Int×Int×Bool,run:=fun x=>m x.1.1,dflt:=default,out:=fun r=>(Sh.enc D (.bU [iq0,iq0,.bool]) (r.1,(r.2.1,(r.2.2,()))),bh.encs D [] ())}
theorem UA:aj (MM (M.vg)):=aH (cx:=di) true dk Tryz.func160 hq ⟨NK,fun x=>(x.1.1.1,x.1.1.2.1,x.1.1.2.2.1)⟩ (fun x=>by kernel_rfl)
def acO:bo K:=bB D false 20 0 [0,1,5] [4] ⟨[.ah U.Core,.str,iq0],[]⟩ (fun x=>M.vN x.1.1 x.1.2.1 af x.1.2.2.1) iW
def UI(m:(List M.an)->(List UInt8)->Option Int):ax K:=cI 119 ⟨[.ah U.Core,.str],[]⟩ (fun x=>m x.1.1 x.1.2.1)
def I3:Cx K:=aQ [] [] [(2,acO)]
theorem acP:aJ I3:=aL aB _ ak
theorem atJ:bn I3 (bc (bm Tryz.f119) 0) acO:=lk (cx:=I3) (sh:=⟨[.ah U.Core,.str,iq0],[]⟩) (run:=fun n x=>M.vN x.1.1 x.1.2.1 n x.1.2.2.1) (bu:=iY) acP (fun m x=>by kernel_rfl) (ae ⟨cn,fun _ _ _=>rfl⟩ (ae ⟨bD,fun _ _ _=>rfl⟩ ak))
theorem anL:aj (UI (M.Bt)):=aH (cx:=I3) true acP Tryz.func119 (hl1 atJ) ⟨zs1,fun x=>x.1.1⟩ (fun x=>by kernel_rfl)
def NS(m:Int->Option Bool):ax K:=cB 279 zs1 (fun x=>m x.1.1)
theorem acQ:aj (NS (M.NT)):=aH (cx:=di) true dk Tryz.func279 hq ⟨zs0,fun x=>x.1.1⟩ (fun x=>by kernel_rfl)
def acR(y:(Int×Int×(List M.bf))⊕(M.an×(List M.bf)×(List Int))){R:Type}(k:KT R):R:=match y with|.inl a0=>kk k Ex.ret abr (((),((),((),((),(a0.1,(a0.2.1,())))))),((),((),((),((),((),(a0.2.2,())))))))|.inr a1=>kk k (Ex.exit 0) abt (((),((),((),((),((),((),())))))),(a1.1,((),((),(a1.2.1,(a1.2.2,()))))))
def acS:List (cq K ((Int×Int×(List M.bf))⊕(M.an×(List M.bf)×(List Int)))):=[⟨Ex.ret,abr,fun x=>.inl (x.1.2.2.2.2.1,x.1.2.2.2.2.2.1,x.2.2.2.2.2.2.1)⟩,⟨(Ex.exit 0),abt,fun x=>.inr ((x.2.1,x.2.2.2.2.1,x.2.2.2.2.2.1))⟩]
def acT:bo K:=bB D false 145 3 [1,5,6,7] [1,5,6,2,3,4] abx (fun x=>M.oZ x.2.1 af x.1.2.2.2.1 x.2.2.2.2.1 x.2.2.2.2.2.1) acR
def acU(m:M.an->Option (Int×Int×(List M.bf))):ax K:={f:=242,sh:=yb,R:=Int×Int×(List M.bf),run:=fun x=>m x.1.1,dflt:=default,out:=fun r=>(Sh.enc D (.bU [.own 0,iq0,iq0]) ((),(r.1,(r.2.1,()))),bh.encs D [.arr U.CodeBlock] (r.2.2,()))}
def I4:Cx K:={js with mode:=ir .plain [(279,.plain)],mN:=[[some U.CodeBlock],[],[]],cut:=true,call:=callOf D [NS M.NT],loop:=gu [(4,acT)]}
theorem acV:aJ I4:=aL aB _ (ae acQ ak)
theorem atK:bn I4 (bc (bm Tryz.f242) 0) acT:=lk (cx:=I4) (sh:=abx) (run:=fun n x=>M.oZ x.2.1 n x.1.2.2.2.1 x.2.2.2.2.1 x.2.2.2.2.2.1) (bu:=acS) acV (fun m x=>by kernel_rfl) (ae ⟨cn,fun _ _ _=>rfl⟩ (ae ⟨bD,fun _ _ _=>rfl⟩ ak))
theorem atL:aj (acU (M.Dt)):=aH (cx:=I4) false acV Tryz.func242 (hl1 atK) ⟨⟨[.bU [.own 0,iq0,iq0]],[.arr U.CodeBlock]⟩,fun x=>(x.1.1.2.1,x.1.1.2.2.1,x.2.1)⟩ (fun x=>by kernel_rfl)
def NU(m:(List Int)->Option ((List Int))):ax K:={f:=280,sh:=sc,R:=(List Int),run:=fun x=>m x.1.1,dflt:=default,out:=fun r=>(Sh.enc D (.own 0) (),bh.encs D [.arr U.i64] (r,()))}
def acW:Cx K:={js with mode:=ir .plain [],mN:=[[some U.i64]],call:=callOf D [],loop:=gu []}
theorem atM:aJ acW:=aL aB _ ak
theorem acX:aj (NU (M.qy)):=aH (cx:=acW) false atM Tryz.func280 hq ⟨MV,fun x=>x.2.1⟩ (fun x=>by kernel_rfl)
def acY(m:Int->(List M.aN)->(List M.an)->(List UInt8)->Int->Int->Bool->(List M.aG)->Int->Bool->(List M.bf)->(List Int)->Option (M.cZ×Int×(List M.aN)×(List M.an)×(List UInt8)×Int×Int×Bool×(List M.aG)×Int×Bool×(List M.bf)×(List Int))):ax K:={f:=243,sh:=⟨[.ptr 0 0],[.box [iq0,.ah U.Import,.ah U.Core,.str,iq0,iq0,.bool,.ah U.Ins,.own 1,.own 2,iq0,.bool],.arr U.CodeBlock,.arr U.i64]⟩,R:=M.cZ×Int×(List M.aN)×(List M.an)×(List UInt8)×Int×Int×Bool×(List M.aG)×Int×Bool×(List M.bf)×(List Int),run:=fun x=>m x.2.1.1 x.2.1.2.1 x.2.1.2.2.1 x.2.1.2.2.2.1 x.2.1.2.2.2.2.1 x.2.1.2.2.2.2.2.1 x.2.1.2.2.2.2.2.2.1 x.2.1.2.2.2.2.2.2.2.1 x.2.1.2.2.2.2.2.2.2.2.2.2.1 x.2.1.2.2.2.2.2.2.2.2.2.2.2.1 x.2.2.1 x.2.2.2.1,dflt:=default,out:=fun r=>(Sh.enc D (.el U.gw) r.1,bh.encs D [.box [iq0,.ah U.Import,.ah U.Core,.str,iq0,iq0,.bool,.ah U.Ins,.own 3,.own 4,iq0,.bool],.dead,.dead,.arr U.CodeBlock,.arr U.i64] ((r.2.1,(r.2.2.1,(r.2.2.2.1,(r.2.2.2.2.1,(r.2.2.2.2.2.1,(r.2.2.2.2.2.2.1,(r.2.2.2.2.2.2.2.1,(r.2.2.2.2.2.2.2.2.1,((),((),(r.2.2.2.2.2.2.2.2.2.1,(r.2.2.2.2.2.2.2.2.2.2.1,())))))))))))),((),((),(r.2.2.2.2.2.2.2.2.2.2.2.1,(r.2.2.2.2.2.2.2.2.2.2.2.2,()))))))}
def acZ:Cx K:={js with mode:=ir .plain [(280,.fresh)],mv:=true,call:=callOf D [NU M.qy],loop:=gu []}
theorem atN:aJ acZ:=aL aB _ (ae acX ak)
theorem atO:aj (acY (M.Du)):=aH (cx:=acZ) true atN Tryz.func243 hq ⟨⟨[.el U.gw],[.box [iq0,.ah U.Import,.ah U.Core,.str,iq0,iq0,.bool,.ah U.Ins,.own 3,.own 4,iq0,.bool],.dead,.dead,.arr U.CodeBlock,.arr U.i64]⟩,fun x=>(x.1.1,x.2.1.1,x.2.1.2.1,x.2.1.2.2.1,x.2.1.2.2.2.1,x.2.1.2.2.2.2.1,x.2.1.2.2.2.2.2.1,x.2.1.2.2.2.2.2.2.1,x.2.1.2.2.2.2.2.2.2.1,x.2.1.2.2.2.2.2.2.2.2.2.2.1,x.2.1.2.2.2.2.2.2.2.2.2.2.2.1,x.2.2.2.2.1,x.2.2.2.2.2.1)⟩ (fun x=>by kernel_rfl)
def Dv(m:Bool->Option Int):ax K:=cI 245 zs0 (fun x=>m x.1.1)
theorem I5:aj (Dv (M.kY)):=aH (cx:=di) true dk Tryz.func245 hq ⟨zs1,fun x=>x.1.1⟩ (fun x=>by kernel_rfl)
def ac0(m:Bool->Int->(List M.aN)->(List M.an)->(List UInt8)->Int->Int->Bool->(List M.aG)->Int->Bool->(List M.bf)->(List Int)->Option (Bool×Int×(List M.aN)×(List M.an)×(List UInt8)×Int×Int×Bool×(List M.aG)×Int×Bool×(List M.bf)×(List Int))):ax K:={f:=281,sh:=⟨[.ptr 0 0,.bool],[.box [iq0,.ah U.Import,.ah U.Core,.str,iq0,iq0,.bool,.ah U.Ins,.own 1,.own 2,iq0,.bool],.arr U.CodeBlock,.arr U.i64]⟩,R:=Bool×Int×(List M.aN)×(List M.an)×(List UInt8)×Int×Int×Bool×(List M.aG)×Int×Bool×(List M.bf)×(List Int),run:=fun x=>m x.1.2.1 x.2.1.1 x.2.1.2.1 x.2.1.2.2.1 x.2.1.2.2.2.1 x.2.1.2.2.2.2.1 x.2.1.2.2.2.2.2.1 x.2.1.2.2.2.2.2.2.1 x.2.1.2.2.2.2.2.2.2.1 x.2.1.2.2.2.2.2.2.2.2.2.2.1 x.2.1.2.2.2.2.2.2.2.2.2.2.2.1 x.2.2.1 x.2.2.2.1,dflt:=default,out:=fun r=>(Sh.enc D (.bool) r.1,bh.encs D [.box [iq0,.ah U.Import,.ah U.Core,.str,iq0,iq0,.bool,.ah U.Ins,.own 3,.own 4,iq0,.bool],.dead,.dead,.arr U.CodeBlock,.arr U.i64] ((r.2.1,(r.2.2.1,(r.2.2.2.1,(r.2.2.2.2.1,(r.2.2.2.2.2.1,(r.2.2.2.2.2.2.1,(r.2.2.2.2.2.2.2.1,(r.2.2.2.2.2.2.2.2.1,((),((),(r.2.2.2.2.2.2.2.2.2.1,(r.2.2.2.2.2.2.2.2.2.2.1,())))))))))))),((),((),(r.2.2.2.2.2.2.2.2.2.2.2.1,(r.2.2.2.2.2.2.2.2.2.2.2.2,()))))))}
def ac1:Cx K:={js with mode:=ir .plain [(245,.plain)],cut:=true,mv:=true,call:=callOf D [Dv M.kY],loop:=gu []}
theorem atP:aJ ac1:=aL aB _ (ae I5 ak)
theorem atQ:aj (ac0 (M.Dw)):=aH (cx:=ac1) true atP Tryz.func281 hq ⟨⟨[.bool],[.box [iq0,.ah U.Import,.ah U.Core,.str,iq0,iq0,.bool,.ah U.Ins,.own 3,.own 4,iq0,.bool],.dead,.dead,.arr U.CodeBlock,.arr U.i64]⟩,fun x=>(x.1.1,x.2.1.1,x.2.1.2.1,x.2.1.2.2.1,x.2.1.2.2.2.1,x.2.1.2.2.2.2.1,x.2.1.2.2.2.2.2.1,x.2.1.2.2.2.2.2.2.1,x.2.1.2.2.2.2.2.2.2.1,x.2.1.2.2.2.2.2.2.2.2.2.2.1,x.2.1.2.2.2.2.2.2.2.2.2.2.2.1,x.2.2.2.2.1,x.2.2.2.2.2.1)⟩ (fun x=>by kernel_rfl)
def ac2(m:M.aM->M.an->M.aG->Int->Option Bool):ax K:=cB 282 ⟨[.el U.Module,.el U.Core,.el U.Ins,iq0],[]⟩ (fun x=>m x.1.1 x.1.2.1 x.1.2.2.1 x.1.2.2.2.1)
theorem atS:aj (ac2 (M.Dx)):=aH (cx:=di) true dk Tryz.func282 hq ⟨zs0,fun x=>x.1.1⟩ (fun x=>by kernel_rfl)
def ac3(m:M.aM->M.aG->Option (Int×Int)):ax K:={f:=283,sh:=⟨[.el U.Module,.el U.Ins],[]⟩,R:=Int×Int,run:=fun x=>m x.1.1 x.1.2.1,dflt:=default,out:=fun r=>(Sh.enc D (.bU [iq0,iq0]) (r.1,(r.2,())),bh.encs D [] ())}
def NV:Cx K:=aQ [(245,.plain)] [Dv M.kY] []
theorem ac4:aJ NV:=aL aB _ (ae I5 ak)
theorem atT:aj (ac3 (M.Dy)):=aH (cx:=NV) true ac4 Tryz.func283 hq ⟨NL,fun x=>(x.1.1.1,x.1.1.2.1)⟩ (fun x=>by kernel_rfl)
def ac5(m:M.eA->Option Int):ax K:=cI 284 ⟨[.rp U.mf 0],[]⟩ (fun x=>m x.1.1)
theorem atU:aj (ac5 (M.yT)):=aH (cx:=di) true dk Tryz.func284 hq ⟨zs1,fun x=>x.1.1⟩ (fun x=>by kernel_rfl)
def ac6(m:M.eA->Int->Option Int):ax K:=cI 285 ⟨[.rp U.mf 0,iq0],[]⟩ (fun x=>m x.1.1 x.1.2.1)
theorem atV:aj (ac6 (M.s9)):=aH (cx:=NV) true ac4 Tryz.func285 hq ⟨zs1,fun x=>x.1.1⟩ (fun x=>by kernel_rfl)
def ac7:bo K:=bB D false 26 0 [0,1,5] [4] aby (fun x=>M.vO x.1.1 x.1.2.1 af x.1.2.2.1) iW
def ac8(m:M.eA->Int->Option Int):ax K:=cI 286 ⟨[.rp U.mf 0,iq0],[]⟩ (fun x=>m x.1.1 x.1.2.1)
def I6:Cx K:=aQ [] [] [(2,ac7)]
theorem ac9:aJ I6:=aL aB _ ak
theorem atW:bn I6 (bc (bm Tryz.f286) 0) ac7:=lk (cx:=I6) (sh:=aby) (run:=fun n x=>M.vO x.1.1 x.1.2.1 n x.1.2.2.1) (bu:=iY) ac9 (fun m x=>by kernel_rfl) (ae ⟨cn,fun _ _ _=>rfl⟩ (ae ⟨bD,fun _ _ _=>rfl⟩ ak))
theorem atX:aj (ac8 (M.Dz)):=aH (cx:=I6) true ac9 Tryz.func286 (hl1 atW) ⟨zs1,fun x=>x.1.1⟩ (fun x=>by kernel_rfl)
def ada(m:Int->Option Bool):ax K:=cB 287 zs1 (fun x=>m x.1.1)
theorem atY:aj (ada (M.adb)):=aH (cx:=di) true dk Tryz.func287 hq ⟨zs0,fun x=>x.1.1⟩ (fun x=>by kernel_rfl)
def ade(m:Int->Int->(List M.aN)->(List M.an)->(List UInt8)->Int->Int->Bool->(List M.aG)->Int->Bool->(List M.bf)->(List Int)->Option (Int×Int×(List M.aN)×(List M.an)×(List UInt8)×Int×Int×Bool×(List M.aG)×Int×Bool×(List M.bf)×(List Int))):ax K:={f:=244,sh:=⟨[.ptr 0 0,iq0],[.box [iq0,.ah U.Import,.ah U.Core,.str,iq0,iq0,.bool,.ah U.Ins,.own 1,.own 2,iq0,.bool],.arr U.CodeBlock,.arr U.i64]⟩,R:=Int×Int×(List M.aN)×(List M.an)×(List UInt8)×Int×Int×Bool×(List M.aG)×Int×Bool×(List M.bf)×(List Int),run:=fun x=>m x.1.2.1 x.2.1.1 x.2.1.2.1 x.2.1.2.2.1 x.2.1.2.2.2.1 x.2.1.2.2.2.2.1 x.2.1.2.2.2.2.2.1 x.2.1.2.2.2.2.2.2.1 x.2.1.2.2.2.2.2.2.2.1 x.2.1.2.2.2.2.2.2.2.2.2.2.1 x.2.1.2.2.2.2.2.2.2.2.2.2.2.1 x.2.2.1 x.2.2.2.1,dflt:=default,out:=fun r=>(Sh.enc D (.int .i64) r.1,bh.encs D [.box [iq0,.ah U.Import,.ah U.Core,.str,iq0,iq0,.bool,.ah U.Ins,.own 3,.own 4,iq0,.bool],.dead,.dead,.arr U.CodeBlock,.arr U.i64] ((r.2.1,(r.2.2.1,(r.2.2.2.1,(r.2.2.2.2.1,(r.2.2.2.2.2.1,(r.2.2.2.2.2.2.1,(r.2.2.2.2.2.2.2.1,(r.2.2.2.2.2.2.2.2.1,((),((),(r.2.2.2.2.2.2.2.2.2.1,(r.2.2.2.2.2.2.2.2.2.2.1,())))))))))))),((),((),(r.2.2.2.2.2.2.2.2.2.2.2.1,(r.2.2.2.2.2.2.2.2.2.2.2.2,()))))))}
def adf:Cx K:={js with mode:=ir .plain [(281,.kW),(282,.plain),(283,.plain),(284,.plain),(285,.plain),(245,.plain),(279,.plain),(286,.plain),(280,.fresh),(287,.plain)],mv:=true,call:=callOf D [ac0 M.Dw,ac2 M.Dx,ac3 M.Dy,ac5 M.yT,ac6 M.s9,Dv M.kY,NS M.NT,ac8 M.Dz,NU M.qy,ada M.adb],loop:=gu []}
theorem atZ:aJ adf:=aL aB _ (ae atQ (ae atS (ae atT (ae atU (ae atV (ae I5 (ae acQ (ae atX (ae acX (ae atY ak))))))))))
theorem at1:aj (ade (M.DC)):=aH (cx:=adf) true atZ Tryz.func244 hq ⟨⟨[iq0],[.box [iq0,.ah U.Import,.ah U.Core,.str,iq0,iq0,.bool,.ah U.Ins,.own 3,.own 4,iq0,.bool],.dead,.dead,.arr U.CodeBlock,.arr U.i64]⟩,fun x=>(x.1.1,x.2.1.1,x.2.1.2.1,x.2.1.2.2.1,x.2.1.2.2.2.1,x.2.1.2.2.2.2.1,x.2.1.2.2.2.2.2.1,x.2.1.2.2.2.2.2.2.1,x.2.1.2.2.2.2.2.2.2.1,x.2.1.2.2.2.2.2.2.2.2.2.2.1,x.2.1.2.2.2.2.2.2.2.2.2.2.2.1,x.2.2.2.2.1,x.2.2.2.2.2.1)⟩ (fun x=>by kernel_rfl)
def at6(y:(Int×Int×(List M.cZ))⊕(M.an×Int×(List M.aN)×(List M.an)×(List UInt8)×Int×Int×Bool×(List M.aG)×Int×Bool×(List M.cZ)×(List M.bf)×(List Int))){R:Type}(k:KT R):R:=match y with|.inl a0=>kk k Ex.ret abz (((),((),((),((),((),(a0.1,(a0.2.1,()))))))),((),((),((),((),((),((),(a0.2.2,((),((),()))))))))))|.inr a1=>kk k (Ex.exit 0) abA (((),((),((),((),((),((),((),()))))))),(a1.1,((a1.2.1,(a1.2.2.1,(a1.2.2.2.1,(a1.2.2.2.2.1,(a1.2.2.2.2.2.1,(a1.2.2.2.2.2.2.1,(a1.2.2.2.2.2.2.2.1,(a1.2.2.2.2.2.2.2.2.1,((),((),(a1.2.2.2.2.2.2.2.2.2.1,(a1.2.2.2.2.2.2.2.2.2.2.1,())))))))))))),((),((),((),(a1.2.2.2.2.2.2.2.2.2.2.2.1,(a1.2.2.2.2.2.2.2.2.2.2.2.2.1,(a1.2.2.2.2.2.2.2.2.2.2.2.2.2,())))))))))
def at7:List (cq K ((Int×Int×(List M.cZ))⊕(M.an×Int×(List M.aN)×(List M.an)×(List UInt8)×Int×Int×Bool×(List M.aG)×Int×Bool×(List M.cZ)×(List M.bf)×(List Int)))):=[⟨Ex.ret,abz,fun x=>.inl (x.1.2.2.2.2.2.1,x.1.2.2.2.2.2.2.1,x.2.2.2.2.2.2.2.1)⟩,⟨(Ex.exit 0),abA,fun x=>.inr ((x.2.1,x.2.2.1.1,x.2.2.1.2.1,x.2.2.1.2.2.1,x.2.2.1.2.2.2.1,x.2.2.1.2.2.2.2.1,x.2.2.1.2.2.2.2.2.1,x.2.2.1.2.2.2.2.2.2.1,x.2.2.1.2.2.2.2.2.2.2.1,x.2.2.1.2.2.2.2.2.2.2.2.2.2.1,x.2.2.1.2.2.2.2.2.2.2.2.2.2.2.1,x.2.2.2.2.2.2.1,x.2.2.2.2.2.2.2.1,x.2.2.2.2.2.2.2.2.1))⟩]
def adg:bo K:=bB D false 82 5 [8,12,13,14] [8,12,13,4,5,6,7] abB (fun x=>M.ta x.2.1 af x.1.2.2.2.1 x.2.2.1.1 x.2.2.1.2.1 x.2.2.1.2.2.1 x.2.2.1.2.2.2.1 x.2.2.1.2.2.2.2.1 x.2.2.1.2.2.2.2.2.1 x.2.2.1.2.2.2.2.2.2.1 x.2.2.1.2.2.2.2.2.2.2.1 x.2.2.1.2.2.2.2.2.2.2.2.2.2.1 x.2.2.1.2.2.2.2.2.2.2.2.2.2.2.1 x.2.2.2.2.2.2.1 x.2.2.2.2.2.2.2.1 x.2.2.2.2.2.2.2.2.1) at6
def UR(m:M.aM->Int->Option ((List M.cZ)×Int×Int)):ax K:={f:=203,sh:=NJ,R:=(List M.cZ)×Int×Int,run:=fun x=>m x.1.1 x.1.2.1,dflt:=default,out:=fun r=>(Sh.enc D (.bU [.any,.ah U.gw,iq0,iq0]) ((),(r.1,(r.2.1,(r.2.2,())))),bh.encs D [] ())}
def I7:Cx K:={js with mode:=ir .plain [(242,.fresh),(243,.kW),(244,.kW),(245,.plain)],I8:=[true,false,false,false],call:=callOf D [acU M.Dt,acY M.Du,ade M.DC,Dv M.kY],loop:=gu [(8,adg)]}
theorem adh:aJ I7:=aL aB _ (ae atL (ae atO (ae at1 (ae I5 ak))))
theorem aua:bn I7 (bc (bm Tryz.f203) 0) adg:=lk (cx:=I7) (sh:=abB) (run:=fun n x=>M.ta x.2.1 n x.1.2.2.2.1 x.2.2.1.1 x.2.2.1.2.1 x.2.2.1.2.2.1 x.2.2.1.2.2.2.1 x.2.2.1.2.2.2.2.1 x.2.2.1.2.2.2.2.2.1 x.2.2.1.2.2.2.2.2.2.1 x.2.2.1.2.2.2.2.2.2.2.1 x.2.2.1.2.2.2.2.2.2.2.2.2.2.1 x.2.2.1.2.2.2.2.2.2.2.2.2.2.2.1 x.2.2.2.2.2.2.1 x.2.2.2.2.2.2.2.1 x.2.2.2.2.2.2.2.2.1) (bu:=at7) adh (fun m x=>by kernel_rfl) (ae ⟨cn,fun _ _ _=>rfl⟩ (ae ⟨bD,fun _ _ _=>rfl⟩ ak))
theorem anO:aj (UR (M.Bv)):=aH (cx:=I7) true adh Tryz.func203 (hl1 aua) ⟨⟨[.bU [.any,.ah U.gw,iq0,iq0]],[]⟩,fun x=>(x.1.1.2.1,x.1.1.2.2.1,x.1.1.2.2.2.1)⟩ (fun x=>by kernel_rfl)
def adi(m:Int->Option (Int×Int×Bool)):ax K:={f:=196,sh:=zs1,R:=Int×Int×Bool,run:=fun x=>m x.1.1,dflt:=default,out:=fun r=>(Sh.enc D (.bU [iq0,iq0,.bool]) (r.1,(r.2.1,(r.2.2,()))),bh.encs D [] ())}
theorem aub:aj (adi (M.adk)):=aH (cx:=di) true dk Tryz.func196 hq ⟨NK,fun x=>(x.1.1.1,x.1.1.2.1,x.1.1.2.2.1)⟩ (fun x=>by kernel_rfl)
def M4(m:Int->Option (Int×Int×Bool)):ax K:={f:=144,sh:=zs1,R:=Int×Int×Bool,run:=fun x=>m x.1.1,dflt:=default,out:=fun r=>(Sh.enc D (.bU [iq0,iq0,.bool]) (r.1,(r.2.1,(r.2.2,()))),bh.encs D [] ())}
def adl:Cx K:=aQ [(196,.plain)] [adi M.adk] []
theorem auc:aJ adl:=aL aB _ (ae aub ak)
theorem Wi:aj (M4 (M.om)):=aH (cx:=adl) true auc Tryz.func144 hq ⟨NK,fun x=>(x.1.1.1,x.1.1.2.1,x.1.1.2.2.1)⟩ (fun x=>by kernel_rfl)
def W9(m:Int->Option Bool):ax K:=cB 305 ⟨[.int .u8],[]⟩ (fun x=>m x.1.1)
theorem apg:aj (W9 (M.Xa)):=aH (cx:=di) true dk Tryz.func305 hq ⟨zs0,fun x=>x.1.1⟩ (fun x=>by kernel_rfl)
def Xb(m:Int->Option Bool):ax K:=cB 306 ⟨[.int .u8],[]⟩ (fun x=>m x.1.1)
theorem aph:aj (Xb (M.Xc)):=aH (cx:=di) true dk Tryz.func306 hq ⟨zs0,fun x=>x.1.1⟩ (fun x=>by kernel_rfl)
def Xd(m:(List UInt8)->Option Int):ax K:=cI 308 dO (fun x=>m x.1.1)
theorem apj:aj (Xd (M.Xe)):=aH (cx:=di) true dk Tryz.func308 hq ⟨zs1,fun x=>x.1.1⟩ (fun x=>by kernel_rfl)
def Na(m:(List M.an)->Option Int):ax K:=cI 221 ⟨[.ah U.Core],[]⟩ (fun x=>m x.1.1)
theorem Xv:aj (Na (M.Nb)):=aH (cx:=di) true dk Tryz.func221 hq ⟨zs1,fun x=>x.1.1⟩ (fun x=>by kernel_rfl)
def NW(m:Int->Option Bool):ax K:=cB 309 zs1 (fun x=>m x.1.1)
theorem adm:aj (NW (M.NY)):=aH (cx:=di) true dk Tryz.func309 hq ⟨zs0,fun x=>x.1.1⟩ (fun x=>by kernel_rfl)
def adn:bo K:=bB D false 141 3 [1,5,6,15,16,17] [1,5,6,2,3,4] abC (fun x=>M.o5 x.1.2.2.2.1 x.1.2.2.2.2.1 x.2.1 af x.1.2.2.2.2.2.1 x.2.2.2.2.1 x.2.2.2.2.2.1) acR
def NZ(m:(List M.aG)->Option Int):ax K:=cI 267 ⟨[.ah U.Ins],[]⟩ (fun x=>m x.1.1)
theorem ado:aj (NZ (M.N1)):=aH (cx:=di) true dk Tryz.func267 hq ⟨zs1,fun x=>x.1.1⟩ (fun x=>by kernel_rfl)
def adp(m:M.an->Option ((List M.bf)×Int×Int)):ax K:={f:=264,sh:=yb,R:=(List M.bf)×Int×Int,run:=fun x=>m x.1.1,dflt:=default,out:=fun r=>(Sh.enc D (.bU [.ah U.CodeBlock,iq0,iq0]) (r.1,(r.2.1,(r.2.2,()))),bh.encs D [] ())}
def I9:Cx K:={js with mode:=ir .plain [(309,.plain),(267,.plain)],cut:=true,call:=callOf D [NW M.NY,NZ M.N1],loop:=gu [(3,adn)]}
theorem adq:aJ I9:=aL aB _ (ae adm (ae ado ak))
theorem aud:bn I9 (bc (bm Tryz.f264) 0) adn:=lk (cx:=I9) (sh:=abC) (run:=fun n x=>M.o5 x.1.2.2.2.1 x.1.2.2.2.2.1 x.2.1 n x.1.2.2.2.2.2.1 x.2.2.2.2.1 x.2.2.2.2.2.1) (bu:=acS) adq (fun m x=>by kernel_rfl) (ae ⟨cn,fun _ _ _=>rfl⟩ (ae ⟨bD,fun _ _ _=>rfl⟩ ak))
theorem aue:aj (adp (M.DD)):=aH (cx:=I9) true adq Tryz.func264 (hl1 aud) ⟨⟨[.bU [.ah U.CodeBlock,iq0,iq0]],[]⟩,fun x=>(x.1.1.1,x.1.1.2.1,x.1.1.2.2.1)⟩ (fun x=>by kernel_rfl)
def adr(m:Int->(List M.aN)->(List M.an)->(List UInt8)->Int->Int->Bool->(List M.aG)->(List M.bf)->Int->Int->Bool->(List Int)->(List Int)->Option (Bool×Int×Int×(List M.aN)×(List M.an)×(List UInt8)×Int×Int×Bool×(List M.aG)×(List M.bf)×Int×Int×Bool×(List Int)×(List Int)×(List Int))):ax K:={f:=265,sh:=⟨[.ptr 0 0],[.box [iq0,.ah U.Import,.ah U.Core,.str,iq0,iq0,.bool,.ah U.Ins,.ah U.CodeBlock,iq0,.own 1,.own 2,iq0,.bool],.arr U.i64,.arr U.i64]⟩,R:=Bool×Int×Int×(List M.aN)×(List M.an)×(List UInt8)×Int×Int×Bool×(List M.aG)×(List M.bf)×Int×Int×Bool×(List Int)×(List Int)×(List Int),run:=fun x=>m x.2.1.1 x.2.1.2.1 x.2.1.2.2.1 x.2.1.2.2.2.1 x.2.1.2.2.2.2.1 x.2.1.2.2.2.2.2.1 x.2.1.2.2.2.2.2.2.1 x.2.1.2.2.2.2.2.2.2.1 x.2.1.2.2.2.2.2.2.2.2.1 x.2.1.2.2.2.2.2.2.2.2.2.1 x.2.1.2.2.2.2.2.2.2.2.2.2.2.2.1 x.2.1.2.2.2.2.2.2.2.2.2.2.2.2.2.1 x.2.2.1 x.2.2.2.1,dflt:=default,out:=fun r=>(Sh.enc D (.agg [.bool,iq0,.own 3]) (r.1,(r.2.1,((),()))),bh.encs D [.box [iq0,.ah U.Import,.ah U.Core,.str,iq0,iq0,.bool,.ah U.Ins,.ah U.CodeBlock,iq0,.own 4,.own 5,iq0,.bool],.dead,.dead,.arr U.i64,.arr U.i64,.arr U.i64] ((r.2.2.1,(r.2.2.2.1,(r.2.2.2.2.1,(r.2.2.2.2.2.1,(r.2.2.2.2.2.2.1,(r.2.2.2.2.2.2.2.1,(r.2.2.2.2.2.2.2.2.1,(r.2.2.2.2.2.2.2.2.2.1,(r.2.2.2.2.2.2.2.2.2.2.1,(r.2.2.2.2.2.2.2.2.2.2.2.1,((),((),(r.2.2.2.2.2.2.2.2.2.2.2.2.1,(r.2.2.2.2.2.2.2.2.2.2.2.2.2.1,())))))))))))))),((),((),(r.2.2.2.2.2.2.2.2.2.2.2.2.2.2.1,(r.2.2.2.2.2.2.2.2.2.2.2.2.2.2.2.1,(r.2.2.2.2.2.2.2.2.2.2.2.2.2.2.2.2,())))))))}
def ads:Cx K:={js with mode:=ir .plain [(310,.fresh)],mN:=[[none,none,some U.i64]],deep:=fun c=>iw (D.cells c (K.zero c)),mv:=true,call:=callOf D [N2 M.tc],loop:=gu []}
theorem auf:aJ ads:=aL aB _ (ae aug ak)
theorem auh:aj (adr (M.DF)):=aH (cx:=ads) false auf Tryz.func265 hq ⟨⟨[.agg [.bool,iq0,.own 3]],[.box [iq0,.ah U.Import,.ah U.Core,.str,iq0,iq0,.bool,.ah U.Ins,.ah U.CodeBlock,iq0,.own 4,.own 5,iq0,.bool],.dead,.dead,.arr U.i64,.arr U.i64,.arr U.i64]⟩,fun x=>(x.1.1.1,x.1.1.2.1,x.2.1.1,x.2.1.2.1,x.2.1.2.2.1,x.2.1.2.2.2.1,x.2.1.2.2.2.2.1,x.2.1.2.2.2.2.2.1,x.2.1.2.2.2.2.2.2.1,x.2.1.2.2.2.2.2.2.2.1,x.2.1.2.2.2.2.2.2.2.2.1,x.2.1.2.2.2.2.2.2.2.2.2.1,x.2.1.2.2.2.2.2.2.2.2.2.2.2.2.1,x.2.1.2.2.2.2.2.2.2.2.2.2.2.2.2.1,x.2.2.2.2.1,x.2.2.2.2.2.1,x.2.2.2.2.2.2.1)⟩ (fun x=>by kernel_rfl)
def yM(m:Bool->Option Int):ax K:=cI 98 zs0 (fun x=>m x.1.1)
theorem CS:aj (yM (M.jt)):=aH (cx:=di) true dk Tryz.func98 hq ⟨zs1,fun x=>x.1.1⟩ (fun x=>by kernel_rfl)
def N3(m:M.eg->Option Int):ax K:=cI 314 ⟨[.rp U.checker 0],[]⟩ (fun x=>m x.1.1)
theorem adt:aj (N3 (M.vP)):=aH (cx:=di) true dk Tryz.func314 hq ⟨zs1,fun x=>x.1.1⟩ (fun x=>by kernel_rfl)
def adu(m:M.aG->Int->(List M.aN)->(List M.an)->(List UInt8)->Int->Int->Bool->(List M.aG)->(List M.bf)->Int->Int->Bool->(List Int)->(List Int)->Option (Int×Int×(List M.aN)×(List M.an)×(List UInt8)×Int×Int×Bool×(List M.aG)×(List M.bf)×Int×Int×Bool×(List Int)×(List Int))):ax K:={f:=311,sh:=abD,R:=Int×Int×(List M.aN)×(List M.an)×(List UInt8)×Int×Int×Bool×(List M.aG)×(List M.bf)×Int×Int×Bool×(List Int)×(List Int),run:=fun x=>m x.1.2.1 x.2.1.1 x.2.1.2.1 x.2.1.2.2.1 x.2.1.2.2.2.1 x.2.1.2.2.2.2.1 x.2.1.2.2.2.2.2.1 x.2.1.2.2.2.2.2.2.1 x.2.1.2.2.2.2.2.2.2.1 x.2.1.2.2.2.2.2.2.2.2.1 x.2.1.2.2.2.2.2.2.2.2.2.1 x.2.1.2.2.2.2.2.2.2.2.2.2.2.2.1 x.2.1.2.2.2.2.2.2.2.2.2.2.2.2.2.1 x.2.2.1 x.2.2.2.1,dflt:=default,out:=fun r=>(Sh.enc D (.int .i64) r.1,bh.encs D [.box [iq0,.ah U.Import,.ah U.Core,.str,iq0,iq0,.bool,.ah U.Ins,.ah U.CodeBlock,iq0,.own 3,.own 4,iq0,.bool],.dead,.dead,.arr U.i64,.arr U.i64] ((r.2.1,(r.2.2.1,(r.2.2.2.1,(r.2.2.2.2.1,(r.2.2.2.2.2.1,(r.2.2.2.2.2.2.1,(r.2.2.2.2.2.2.2.1,(r.2.2.2.2.2.2.2.2.1,(r.2.2.2.2.2.2.2.2.2.1,(r.2.2.2.2.2.2.2.2.2.2.1,((),((),(r.2.2.2.2.2.2.2.2.2.2.2.1,(r.2.2.2.2.2.2.2.2.2.2.2.2.1,())))))))))))))),((),((),(r.2.2.2.2.2.2.2.2.2.2.2.2.2.1,(r.2.2.2.2.2.2.2.2.2.2.2.2.2.2,()))))))}
def adv:Cx K:={js with mode:=ir .plain [(98,.plain),(314,.plain)],cut:=true,mv:=true,call:=callOf D [yM M.jt,N3 M.vP],loop:=gu []}
theorem aui:aJ adv:=aL aB _ (ae CS (ae adt ak))
theorem auj:aj (adu (M.DG)):=aH (cx:=adv) true aui Tryz.func311 hq ⟨abE,fun x=>(x.1.1,x.2.1.1,x.2.1.2.1,x.2.1.2.2.1,x.2.1.2.2.2.1,x.2.1.2.2.2.2.1,x.2.1.2.2.2.2.2.1,x.2.1.2.2.2.2.2.2.1,x.2.1.2.2.2.2.2.2.2.1,x.2.1.2.2.2.2.2.2.2.2.1,x.2.1.2.2.2.2.2.2.2.2.2.1,x.2.1.2.2.2.2.2.2.2.2.2.2.2.2.1,x.2.1.2.2.2.2.2.2.2.2.2.2.2.2.2.1,x.2.2.2.2.1,x.2.2.2.2.2.1)⟩ (fun x=>by kernel_rfl)
def adw(m:(List M.aN)->Option Int):ax K:=cI 343 NI (fun x=>m x.1.1)
theorem auk:aj (adw (M.adx)):=aH (cx:=di) true dk Tryz.func343 hq ⟨zs1,fun x=>x.1.1⟩ (fun x=>by kernel_rfl)
def H6(m:(List Int)->Option Int):ax K:=cI 180 sc (fun x=>m x.1.1)
theorem Nk:aj (H6 (M.H7)):=aH (cx:=di) true dk Tryz.func180 hq ⟨zs1,fun x=>x.1.1⟩ (fun x=>by kernel_rfl)
def ady(m:M.eg->M.aG->Option Bool):ax K:=cB 312 NM (fun x=>m x.1.1 x.1.2.1)
def adz:Cx K:=aQ [(221,.plain),(343,.plain),(180,.plain)] [Na M.Nb,adw M.adx,H6 M.H7] []
theorem aul:aJ adz:=aL aB _ (ae Xv (ae auk (ae Nk ak)))
theorem aum:aj (ady (M.DI)):=aH (cx:=adz) true aul Tryz.func312 hq ⟨zs0,fun x=>x.1.1⟩ (fun x=>by kernel_rfl)
def adA(m:M.eg->M.aG->Option (Int×Int)):ax K:={f:=313,sh:=NM,R:=Int×Int,run:=fun x=>m x.1.1 x.1.2.1,dflt:=default,out:=fun r=>(Sh.enc D (.bU [iq0,iq0]) (r.1,(r.2,())),bh.encs D [] ())}
def adB:Cx K:=aQ [(98,.plain)] [yM M.jt] []
theorem aun:aJ adB:=aL aB _ (ae CS ak)
theorem auo:aj (adA (M.DJ)):=aH (cx:=adB) true aun Tryz.func313 hq ⟨NL,fun x=>(x.1.1.1,x.1.1.2.1)⟩ (fun x=>by kernel_rfl)
def adC(m:M.eg->M.aG->Option Int):ax K:=cI 315 NM (fun x=>m x.1.1 x.1.2.1)
def adD:Cx K:=aQ [(98,.plain),(180,.plain)] [yM M.jt,H6 M.H7] []
theorem aup:aJ adD:=aL aB _ (ae CS (ae Nk ak))
theorem auq:aj (adC (M.DK)):=aH (cx:=adD) true aup Tryz.func315 hq ⟨zs1,fun x=>x.1.1⟩ (fun x=>by kernel_rfl)
def adE(m:M.aG->Int->(List M.aN)->(List M.an)->(List UInt8)->Int->Int->Bool->(List M.aG)->(List M.bf)->Int->Int->Bool->(List Int)->(List Int)->Option (Int×Int×(List M.aN)×(List M.an)×(List UInt8)×Int×Int×Bool×(List M.aG)×(List M.bf)×Int×Int×Bool×(List Int)×(List Int))):ax K:={f:=266,sh:=abD,R:=Int×Int×(List M.aN)×(List M.an)×(List UInt8)×Int×Int×Bool×(List M.aG)×(List M.bf)×Int×Int×Bool×(List Int)×(List Int),run:=fun x=>m x.1.2.1 x.2.1.1 x.2.1.2.1 x.2.1.2.2.1 x.2.1.2.2.2.1 x.2.1.2.2.2.2.1 x.2.1.2.2.2.2.2.1 x.2.1.2.2.2.2.2.2.1 x.2.1.2.2.2.2.2.2.2.1 x.2.1.2.2.2.2.2.2.2.2.1 x.2.1.2.2.2.2.2.2.2.2.2.1 x.2.1.2.2.2.2.2.2.2.2.2.2.2.2.1 x.2.1.2.2.2.2.2.2.2.2.2.2.2.2.2.1 x.2.2.1 x.2.2.2.1,dflt:=default,out:=fun r=>(Sh.enc D (.int .i64) r.1,bh.encs D [.box [iq0,.ah U.Import,.ah U.Core,.str,iq0,iq0,.bool,.ah U.Ins,.ah U.CodeBlock,iq0,.own 3,.own 4,iq0,.bool],.dead,.dead,.arr U.i64,.arr U.i64] ((r.2.1,(r.2.2.1,(r.2.2.2.1,(r.2.2.2.2.1,(r.2.2.2.2.2.1,(r.2.2.2.2.2.2.1,(r.2.2.2.2.2.2.2.1,(r.2.2.2.2.2.2.2.2.1,(r.2.2.2.2.2.2.2.2.2.1,(r.2.2.2.2.2.2.2.2.2.2.1,((),((),(r.2.2.2.2.2.2.2.2.2.2.2.1,(r.2.2.2.2.2.2.2.2.2.2.2.2.1,())))))))))))))),((),((),(r.2.2.2.2.2.2.2.2.2.2.2.2.2.1,(r.2.2.2.2.2.2.2.2.2.2.2.2.2.2,()))))))}
def adF:Cx K:={js with mode:=ir .plain [(311,.kW),(312,.plain),(313,.plain),(314,.plain),(315,.plain),(309,.plain)],mv:=true,call:=callOf D [adu M.DG,ady M.DI,adA M.DJ,N3 M.vP,adC M.DK,NW M.NY],loop:=gu []}
theorem aur:aJ adF:=aL aB _ (ae auj (ae aum (ae auo (ae adt (ae auq (ae adm ak))))))
theorem aus:aj (adE (M.DL)):=aH (cx:=adF) true aur Tryz.func266 hq ⟨abE,fun x=>(x.1.1,x.2.1.1,x.2.1.2.1,x.2.1.2.2.1,x.2.1.2.2.2.1,x.2.1.2.2.2.2.1,x.2.1.2.2.2.2.2.1,x.2.1.2.2.2.2.2.2.1,x.2.1.2.2.2.2.2.2.2.1,x.2.1.2.2.2.2.2.2.2.2.1,x.2.1.2.2.2.2.2.2.2.2.2.1,x.2.1.2.2.2.2.2.2.2.2.2.2.2.2.1,x.2.1.2.2.2.2.2.2.2.2.2.2.2.2.2.1,x.2.2.2.2.1,x.2.2.2.2.2.1)⟩ (fun x=>by kernel_rfl)
def aut(y:(Int×Int×(List M.cZ)×(List M.bf))⊕((List M.bf)×M.an×Int×(List M.aN)×(List M.an)×(List UInt8)×Int×Int×Bool×(List M.aG)×(List M.bf)×Int×Int×Bool×(List M.cZ)×(List Int)×(List Int))){R:Type}(k:KT R):R:=match y with|.inl a0=>kk k Ex.ret abG (((),((),((),((),((),((),(a0.1,(a0.2.1,())))))))),((),((),((),((),((),((),(a0.2.2.1,(a0.2.2.2,((),((),())))))))))))|.inr a1=>kk k (Ex.exit 0) abH (((),(a1.1,((),((),((),((),((),((),())))))))),(a1.2.1,((a1.2.2.1,(a1.2.2.2.1,(a1.2.2.2.2.1,(a1.2.2.2.2.2.1,(a1.2.2.2.2.2.2.1,(a1.2.2.2.2.2.2.2.1,(a1.2.2.2.2.2.2.2.2.1,(a1.2.2.2.2.2.2.2.2.2.1,(a1.2.2.2.2.2.2.2.2.2.2.1,(a1.2.2.2.2.2.2.2.2.2.2.2.1,((),((),(a1.2.2.2.2.2.2.2.2.2.2.2.2.1,(a1.2.2.2.2.2.2.2.2.2.2.2.2.2.1,())))))))))))))),((),((),((),(a1.2.2.2.2.2.2.2.2.2.2.2.2.2.2.1,(a1.2.2.2.2.2.2.2.2.2.2.2.2.2.2.2.1,(a1.2.2.2.2.2.2.2.2.2.2.2.2.2.2.2.2,())))))))))
def auu:List (cq K ((Int×Int×(List M.cZ)×(List M.bf))⊕((List M.bf)×M.an×Int×(List M.aN)×(List M.an)×(List UInt8)×Int×Int×Bool×(List M.aG)×(List M.bf)×Int×Int×Bool×(List M.cZ)×(List Int)×(List Int)))):=[⟨Ex.ret,abG,fun x=>.inl (x.1.2.2.2.2.2.2.1,x.1.2.2.2.2.2.2.2.1,x.2.2.2.2.2.2.2.1,x.2.2.2.2.2.2.2.2.1)⟩,⟨(Ex.exit 0),abH,fun x=>.inr ((x.1.2.1,x.2.1,x.2.2.1.1,x.2.2.1.2.1,x.2.2.1.2.2.1,x.2.2.1.2.2.2.1,x.2.2.1.2.2.2.2.1,x.2.2.1.2.2.2.2.2.1,x.2.2.1.2.2.2.2.2.2.1,x.2.2.1.2.2.2.2.2.2.2.1,x.2.2.1.2.2.2.2.2.2.2.2.1,x.2.2.1.2.2.2.2.2.2.2.2.2.1,x.2.2.1.2.2.2.2.2.2.2.2.2.2.2.2.1,x.2.2.1.2.2.2.2.2.2.2.2.2.2.2.2.2.1,x.2.2.2.2.2.2.1,x.2.2.2.2.2.2.2.1,x.2.2.2.2.2.2.2.2.1))⟩]
def adG:bo K:=bB D false 84 5 [8,9,12,13,40,41,42] [8,9,12,13,4,5,6,7] abI (fun x=>M.td x.1.2.1 x.1.2.2.2.2.1 x.1.2.2.2.2.2.1 x.2.1 af x.1.2.2.2.2.2.2.1 x.2.2.1.1 x.2.2.1.2.1 x.2.2.1.2.2.1 x.2.2.1.2.2.2.1 x.2.2.1.2.2.2.2.1 x.2.2.1.2.2.2.2.2.1 x.2.2.1.2.2.2.2.2.2.1 x.2.2.1.2.2.2.2.2.2.2.1 x.2.2.1.2.2.2.2.2.2.2.2.1 x.2.2.1.2.2.2.2.2.2.2.2.2.1 x.2.2.1.2.2.2.2.2.2.2.2.2.2.2.2.1 x.2.2.1.2.2.2.2.2.2.2.2.2.2.2.2.2.1 x.2.2.2.2.2.2.1 x.2.2.2.2.2.2.2.1 x.2.2.2.2.2.2.2.2.1) aut
def Xt(m:M.aM->Int->Option (Int×Int×(List M.cZ))):ax K:={f:=222,sh:=NJ,R:=Int×Int×(List M.cZ),run:=fun x=>m x.1.1 x.1.2.1,dflt:=default,out:=fun r=>(Sh.enc D (.bU [.own 0,.any,iq0,iq0]) ((),((),(r.1,(r.2.1,())))),bh.encs D [.tree U.gw] (r.2.2,()))}
def Ja:Cx K:={js with mode:=ir .plain [(264,.cT),(265,.kW),(266,.kW),(98,.plain),(267,.plain)],mN:=[[some U.gw],[some U.CodeBlock],[],[]],deep:=fun c=>iw (D.cells c (K.zero c)),I8:=[false,true,false,false],call:=callOf D [adp M.DD,adr M.DF,adE M.DL,yM M.jt,NZ M.N1],loop:=gu [(7,adG)]}
theorem adH:aJ Ja:=aL aB _ (ae aue (ae auh (ae aus (ae CS (ae ado ak)))))
theorem auv:bn Ja (bc (bm Tryz.f222) 0) adG:=lk (cx:=Ja) (sh:=abI) (run:=fun n x=>M.td x.1.2.1 x.1.2.2.2.2.1 x.1.2.2.2.2.2.1 x.2.1 n x.1.2.2.2.2.2.2.1 x.2.2.1.1 x.2.2.1.2.1 x.2.2.1.2.2.1 x.2.2.1.2.2.2.1 x.2.2.1.2.2.2.2.1 x.2.2.1.2.2.2.2.2.1 x.2.2.1.2.2.2.2.2.2.1 x.2.2.1.2.2.2.2.2.2.2.1 x.2.2.1.2.2.2.2.2.2.2.2.1 x.2.2.1.2.2.2.2.2.2.2.2.2.1 x.2.2.1.2.2.2.2.2.2.2.2.2.2.2.2.1 x.2.2.1.2.2.2.2.2.2.2.2.2.2.2.2.2.1 x.2.2.2.2.2.2.1 x.2.2.2.2.2.2.2.1 x.2.2.2.2.2.2.2.2.1) (bu:=auu) adH (fun m x=>by kernel_rfl) (ae ⟨cn,fun _ _ _=>rfl⟩ (ae ⟨bD,fun _ _ _=>rfl⟩ ak))
theorem apx:aj (Xt (M.B0)):=aH (cx:=Ja) false adH Tryz.func222 (hl1 auv) ⟨⟨[.bU [.own 0,.any,iq0,iq0]],[.tree U.gw]⟩,fun x=>(x.1.1.2.2.1,x.1.1.2.2.2.1,x.2.1)⟩ (fun x=>by kernel_rfl)
def adI(m:M.aN->M.aN->Option Bool):ax K:=cB 102 ⟨[.el U.Import,.el U.Import],[]⟩ (fun x=>m x.1.1 x.1.2.1)
theorem auw:aj (adI (M.DN)):=aH (cx:=di) true dk Tryz.func102 hq ⟨zs0,fun x=>x.1.1⟩ (fun x=>by kernel_rfl)
def iU(y:Bool⊕Unit){R:Type}(k:KT R):R:=match y with|.inl a0=>kk k Ex.ret zs0 ((a0,()),())|.inr a1=>kk k (Ex.exit 0) zs2 (((),()),())
def iT:List (cq K ((Bool)⊕Unit)):=[⟨Ex.ret,zs0,fun x=>.inl x.1.1⟩,⟨(Ex.exit 0),zs2,fun x=>.inr (())⟩]
def adJ:bo K:=bB D false 27 0 [0,1,5] [4] abJ (fun x=>M.vQ x.1.1 x.1.2.1 af x.1.2.2.1) iU
def adK(m:(List M.aN)->(List M.aN)->Option Bool):ax K:=cB 57 ⟨[.ah U.Import,.ah U.Import],[]⟩ (fun x=>m x.1.1 x.1.2.1)
def Jb:Cx K:=aQ [(102,.plain)] [adI M.DN] [(4,adJ)]
theorem adL:aJ Jb:=aL aB _ (ae auw ak)
theorem auy:bn Jb (bc (bm Tryz.f57) 0) adJ:=lk (cx:=Jb) (sh:=abJ) (run:=fun n x=>M.vQ x.1.1 x.1.2.1 n x.1.2.2.1) (bu:=iT) adL (fun m x=>by kernel_rfl) (ae ⟨cn,fun _ _ _=>rfl⟩ (ae ⟨bD,fun _ _ _=>rfl⟩ ak))
theorem auz:aj (adK (M.DO)):=aH (cx:=Jb) true adL Tryz.func57 (hl1 auy) ⟨zs0,fun x=>x.1.1⟩ (fun x=>by kernel_rfl)
def adM(m:M.aG->M.aG->Option Bool):ax K:=cB 198 ⟨[.el U.Ins,.el U.Ins],[]⟩ (fun x=>m x.1.1 x.1.2.1)
theorem auA:aj (adM (M.DR)):=aH (cx:=di) true dk Tryz.func198 hq ⟨zs0,fun x=>x.1.1⟩ (fun x=>by kernel_rfl)
def adN:bo K:=bB D false 27 0 [0,1,5] [4] abK (fun x=>M.vR x.1.1 x.1.2.1 af x.1.2.2.1) iU
def adO(m:(List M.aG)->(List M.aG)->Option Bool):ax K:=cB 146 ⟨[.ah U.Ins,.ah U.Ins],[]⟩ (fun x=>m x.1.1 x.1.2.1)
def Jc:Cx K:=aQ [(198,.plain)] [adM M.DR] [(4,adN)]
theorem adP:aJ Jc:=aL aB _ (ae auA ak)
theorem auB:bn Jc (bc (bm Tryz.f146) 0) adN:=lk (cx:=Jc) (sh:=abK) (run:=fun n x=>M.vR x.1.1 x.1.2.1 n x.1.2.2.1) (bu:=iT) adP (fun m x=>by kernel_rfl) (ae ⟨cn,fun _ _ _=>rfl⟩ (ae ⟨bD,fun _ _ _=>rfl⟩ ak))
theorem auC:aj (adO (M.DT)):=aH (cx:=Jc) true adP Tryz.func146 (hl1 auB) ⟨zs0,fun x=>x.1.1⟩ (fun x=>by kernel_rfl)
def adQ(m:M.an->M.an->Option Bool):ax K:=cB 103 ⟨[.el U.Core,.el U.Core],[]⟩ (fun x=>m x.1.1 x.1.2.1)
def adR:Cx K:=aQ [(146,.plain)] [adO M.DT] []
theorem auD:aJ adR:=aL aB _ (ae auC ak)
theorem auE:aj (adQ (M.DU)):=aH (cx:=adR) true auD Tryz.func103 hq ⟨zs0,fun x=>x.1.1⟩ (fun x=>by kernel_rfl)
def adS:bo K:=bB D false 27 0 [0,1,5] [4] abL (fun x=>M.vS x.1.1 x.1.2.1 af x.1.2.2.1) iU
def adT(m:(List M.an)->(List M.an)->Option Bool):ax K:=cB 58 ⟨[.ah U.Core,.ah U.Core],[]⟩ (fun x=>m x.1.1 x.1.2.1)
def Jd:Cx K:=aQ [(103,.plain)] [adQ M.DU] [(4,adS)]
theorem adU:aJ Jd:=aL aB _ (ae auE ak)
theorem auF:bn Jd (bc (bm Tryz.f58) 0) adS:=lk (cx:=Jd) (sh:=abL) (run:=fun n x=>M.vS x.1.1 x.1.2.1 n x.1.2.2.1) (bu:=iT) adU (fun m x=>by kernel_rfl) (ae ⟨cn,fun _ _ _=>rfl⟩ (ae ⟨bD,fun _ _ _=>rfl⟩ ak))
theorem auG:aj (adT (M.DV)):=aH (cx:=Jd) true adU Tryz.func58 (hl1 auF) ⟨zs0,fun x=>x.1.1⟩ (fun x=>by kernel_rfl)
def WV(m:M.aM->M.aM->Option Bool):ax K:=cB 26 ⟨[.el U.Module,.el U.Module],[]⟩ (fun x=>m x.1.1 x.1.2.1)
def adV:Cx K:=aQ [(57,.plain),(58,.plain)] [adK M.DO,adT M.DV] []
theorem auH:aJ adV:=aL aB _ (ae auz (ae auG ak))
theorem apa:aj (WV (M.BV)):=aH (cx:=adV) true auH Tryz.func26 hq ⟨zs0,fun x=>x.1.1⟩ (fun x=>by kernel_rfl)
def adW:bo K:=bB D false 28 0 [0,1,5] [1,4] IQ (fun x=>M.vT x.1.1 af x.1.2.1 x.1.2.2.1) oh
def N4(m:(List (List UInt8))->Int->Option Int):ax K:=cI 62 Dk (fun x=>m x.1.1 x.1.2.1)
def Je:Cx K:=aQ [] [] [(5,adW)]
theorem adX:aJ Je:=aL aB _ ak
theorem auI:bn Je (bc (bm Tryz.f62) 0) adW:=lk (cx:=Je) (sh:=IQ) (run:=fun n x=>M.vT x.1.1 n x.1.2.1 x.1.2.2.1) (bu:=oi) adX (fun m x=>by kernel_rfl) (ae ⟨cn,fun _ _ _=>rfl⟩ (ae ⟨bD,fun _ _ _=>rfl⟩ ak))
theorem adY:aj (N4 (M.vU)):=aH (cx:=Je) true adX Tryz.func62 (hl1 auI) ⟨zs1,fun x=>x.1.1⟩ (fun x=>by kernel_rfl)
def mV(m:M.aa->Int->Option Int):ax K:=cI 200 IS (fun x=>m x.1.1 x.1.2.1)
def adZ(dT:M.aa->Int->Option Int):bo K:=bB D false 27 0 [0,1,5] [1,4] abM (fun x=>M.vV dT x.1.1 af x.1.2.1 x.1.2.2.1) oh
def ad1(m:(List M.aa)->Int->Option Int):ax K:=cI 238 MS (fun x=>m x.1.1 x.1.2.1)
def Jf(dT:M.aa->Int->Option Int):Cx K:=aQ [(200,.plain)] [mV dT] [(5,adZ dT)]
theorem ad2(dT:M.aa->Int->Option Int)(pd:aj (mV dT)):aJ (Jf dT):=aL aB _ (ae pd ak)
theorem auJ(dT:M.aa->Int->Option Int)(pd:aj (mV dT)):bn (Jf dT) (bc (bm Tryz.f238) 0) (adZ dT):=lk (cx:=Jf dT) (sh:=abM) (run:=fun n x=>M.vV dT x.1.1 n x.1.2.1 x.1.2.2.1) (bu:=oi) (ad2 dT pd) (fun m x=>by kernel_rfl) (ae ⟨cn,fun _ _ _=>rfl⟩ (ae ⟨bD,fun _ _ _=>rfl⟩ ak))
theorem auK(dT:M.aa->Int->Option Int)(pd:aj (mV dT)):aj (ad1 (M.DW dT)):=eR (cx:=Jf dT) (fz:=true) aB (ad2 dT pd) cG ⟨Tryz.func238,by kernel_rfl⟩ (hl1 (auJ dT pd)) ⟨zs1,fun x=>x.1.1⟩ (fun x=>rfl) (fun x=>by kernel_rfl)
def ad3(dT:M.aa->Int->Option Int):Cx K:=aQ [(62,.plain),(238,.plain)] [N4 M.vU,ad1 (M.DW dT)] []
theorem auL(dT:M.aa->Int->Option Int)(pd:aj (mV dT)):aJ (ad3 dT):=aL aB _ (ae adY (ae (auK dT pd) ak))
theorem auM(dT:M.aa->Int->Option Int)(pd:aj (mV dT)):aj (mV (M.Jg dT)):=eR (cx:=ad3 dT) (fz:=true) aB (auL dT pd) cG ⟨Tryz.func200,by kernel_rfl⟩ hq ⟨zs1,fun x=>x.1.1⟩ (fun x=>rfl) (fun x=>by kernel_rfl)
theorem ad4:∀n,aj (mV (M.vW n))|0=>ia fun _=>rfl|n+1=>auM (M.vW n) (ad4 n)
theorem ad5:aj (mV (M.yU)):=ad4 af
def ad6:bo K:=bB D false 26 0 [0,1,5] [4] IT (fun x=>M.vX x.1.1 x.1.2.1 af x.1.2.2.1) iU
def ML(m:(List (List UInt8))->(List (List UInt8))->Option Bool):ax K:=cB 100 ⟨[.ah U.str,.ah U.str],[]⟩ (fun x=>m x.1.1 x.1.2.1)
def Jh:Cx K:=aQ [] [] [(4,ad6)]
theorem ad7:aJ Jh:=aL aB _ ak
theorem auN:bn Jh (bc (bm Tryz.f100) 0) ad6:=lk (cx:=Jh) (sh:=IT) (run:=fun n x=>M.vX x.1.1 x.1.2.1 n x.1.2.2.1) (bu:=iT) ad7 (fun m x=>by kernel_rfl) (ae ⟨cn,fun _ _ _=>rfl⟩ (ae ⟨bD,fun _ _ _=>rfl⟩ ak))
theorem T0:aj (ML (M.u4)):=aH (cx:=Jh) true ad7 Tryz.func100 (hl1 auN) ⟨zs0,fun x=>x.1.1⟩ (fun x=>by kernel_rfl)
def mW(m:M.aa->M.aa->Option Bool):ax K:=cB 236 ⟨[.el U.Type,.el U.Type],[]⟩ (fun x=>m x.1.1 x.1.2.1)
def ad8(dU:M.aa->M.aa->Option Bool):bo K:=bB D false 27 0 [0,1,5] [4] abN (fun x=>M.vY dU x.1.1 x.1.2.1 af x.1.2.2.1) iU
def ad9(m:(List M.aa)->(List M.aa)->Option Bool):ax K:=cB 276 ⟨[.ah U.Type,.ah U.Type],[]⟩ (fun x=>m x.1.1 x.1.2.1)
def Ji(dU:M.aa->M.aa->Option Bool):Cx K:=aQ [(236,.plain)] [mW dU] [(4,ad8 dU)]
theorem aea(dU:M.aa->M.aa->Option Bool)(pe:aj (mW dU)):aJ (Ji dU):=aL aB _ (ae pe ak)
theorem auO(dU:M.aa->M.aa->Option Bool)(pe:aj (mW dU)):bn (Ji dU) (bc (bm Tryz.f276) 0) (ad8 dU):=lk (cx:=Ji dU) (sh:=abN) (run:=fun n x=>M.vY dU x.1.1 x.1.2.1 n x.1.2.2.1) (bu:=iT) (aea dU pe) (fun m x=>by kernel_rfl) (ae ⟨cn,fun _ _ _=>rfl⟩ (ae ⟨bD,fun _ _ _=>rfl⟩ ak))
theorem auP(dU:M.aa->M.aa->Option Bool)(pe:aj (mW dU)):aj (ad9 (M.DX dU)):=eR (cx:=Ji dU) (fz:=true) aB (aea dU pe) cG ⟨Tryz.func276,by kernel_rfl⟩ (hl1 (auO dU pe)) ⟨zs0,fun x=>x.1.1⟩ (fun x=>rfl) (fun x=>by kernel_rfl)
def aeb(dU:M.aa->M.aa->Option Bool):Cx K:=aQ [(100,.plain),(276,.plain)] [ML M.u4,ad9 (M.DX dU)] []
theorem auQ(dU:M.aa->M.aa->Option Bool)(pe:aj (mW dU)):aJ (aeb dU):=aL aB _ (ae T0 (ae (auP dU pe) ak))
theorem auR(dU:M.aa->M.aa->Option Bool)(pe:aj (mW dU)):aj (mW (M.Jj dU)):=eR (cx:=aeb dU) (fz:=true) aB (auQ dU pe) cG ⟨Tryz.func236,by kernel_rfl⟩ hq ⟨zs0,fun x=>x.1.1⟩ (fun x=>rfl) (fun x=>by kernel_rfl)
theorem aec:∀n,aj (mW (M.vZ n))|0=>ia fun _=>rfl|n+1=>auR (M.vZ n) (aec n)
theorem aed:aj (mW (M.yV)):=aec af
def te(m:M.aa->Int->Option (Int×Int)):ax K:={f:=239,sh:=IS,R:=Int×Int,run:=fun x=>m x.1.1 x.1.2.1,dflt:=default,out:=fun r=>(Sh.enc D (.bU [iq0,iq0]) (r.1,(r.2,())),bh.encs D [] ())}
def MU(m:Int->Int->Option Int):ax K:=cI 277 ⟨[iq0,iq0],[]⟩ (fun x=>m x.1.1 x.1.2.1)
theorem Vp:aj (MU (M.mO)):=aH (cx:=di) true dk Tryz.func277 hq ⟨zs1,fun x=>x.1.1⟩ (fun x=>by kernel_rfl)
def auS(y:(Int×Int)⊕(Int×Int)){R:Type}(k:KT R):R:=match y with|.inl a0=>kk k Ex.ret abO (((),((),(a0.1,(a0.2,())))),((),()))|.inr a1=>kk k (Ex.exit 0) abP ((a1.1,(a1.2,((),((),())))),((),()))
def auT:List (cq K ((Int×Int)⊕(Int×Int))):=[⟨Ex.ret,abO,fun x=>.inl (x.1.2.2.1,x.1.2.2.2.1)⟩,⟨(Ex.exit 0),abP,fun x=>.inr ((x.1.1,x.1.2.1))⟩]
def aee(fx:M.aa->Int->Option (Int×Int)):bo K:=bB D false 48 1 [1,2,6,7,8] [6,7,4,5] abQ (fun x=>M.tf fx x.1.1 af x.1.2.2.1 x.1.2.2.2.1 x.1.2.2.2.2.1 x.2.1) auS
def Jk(fx:M.aa->Int->Option (Int×Int)):Cx K:=aQ [(239,.plain),(277,.plain)] [te fx,MU M.mO] [(6,aee fx)]
theorem aef(fx:M.aa->Int->Option (Int×Int))(yW:aj (te fx)):aJ (Jk fx):=aL aB _ (ae yW (ae Vp ak))
theorem auU(fx:M.aa->Int->Option (Int×Int))(yW:aj (te fx)):bn (Jk fx) (bc (bm Tryz.f239) 0) (aee fx):=lk (cx:=Jk fx) (sh:=abQ) (run:=fun n x=>M.tf fx x.1.1 n x.1.2.2.1 x.1.2.2.2.1 x.1.2.2.2.2.1 x.2.1) (bu:=auT) (aef fx yW) (fun m x=>by kernel_rfl) (ae ⟨cn,fun _ _ _=>rfl⟩ (ae ⟨bD,fun _ _ _=>rfl⟩ ak))
theorem auV(fx:M.aa->Int->Option (Int×Int))(yW:aj (te fx)):aj (te (M.Jl fx)):=eR (cx:=Jk fx) (fz:=true) aB (aef fx yW) cG ⟨Tryz.func239,by kernel_rfl⟩ (hl1 (auU fx yW)) ⟨NL,fun x=>(x.1.1.1,x.1.1.2.1)⟩ (fun x=>rfl) (fun x=>by kernel_rfl)
theorem aeg:∀n,aj (te (M.tg n))|0=>ia fun _=>rfl|n+1=>auV (M.tg n) (aeg n)
theorem auW:aj (te (M.Jm)):=aeg af
def qi(m:Int->Int->Int->Option Bool):ax K:=cB 69 ⟨[iq0,iq0,iq0],[]⟩ (fun x=>m x.1.1 x.1.2.1 x.1.2.2.1)
theorem rO:aj (qi (M.qj)):=aH (cx:=di) true dk Tryz.func69 hq ⟨zs0,fun x=>x.1.1⟩ (fun x=>by kernel_rfl)
def aeh:bo K:=bB D false 69 0 [0,3] [2] IP (fun x=>M.v7 x.1.1 af x.1.2.1) iU
def yk(m:(List UInt8)->Option Bool):ax K:=cB 66 dO (fun x=>m x.1.1)
def Jn:Cx K:=aQ [] [] [(4,aeh)]
theorem aei:aJ Jn:=aL aB _ ak
theorem auX:bn Jn (bc (bm Tryz.f66) 0) aeh:=lk (cx:=Jn) (sh:=IP) (run:=fun n x=>M.v7 x.1.1 n x.1.2.1) (bu:=iT) aei (fun m x=>by kernel_rfl) (ae ⟨cn,fun _ _ _=>rfl⟩ (ae ⟨bD,fun _ _ _=>rfl⟩ ak))
theorem BJ:aj (yk (M.jE)):=aH (cx:=Jn) true aei Tryz.func66 (hl1 auX) ⟨zs0,fun x=>x.1.1⟩ (fun x=>by kernel_rfl)
def auY(y:Bool⊕((List (List UInt8))×Int)){R:Type}(k:KT R):R:=match y with|.inl a0=>kk k Ex.ret yh (((),((),(a0,()))),())|.inr a1=>kk k (Ex.exit 2) ⟨[.ah U.str,iq0,.any],[]⟩ ((a1.1,(a1.2,((),()))),())
def auZ:List (cq K ((Bool)⊕((List (List UInt8))×Int))):=[⟨Ex.ret,yh,fun x=>.inl x.1.2.2.1⟩,⟨(Ex.exit 2),⟨[.ah U.str,iq0,.any],[]⟩,fun x=>.inr ((x.1.1,x.1.2.1))⟩]
def aej:bo K:=bB D false 39 0 [0,3,4] [0,3,2] IQ (fun x=>M.ti x.1.1 x.1.2.1 af x.1.2.2.1) auY
def aek:bo K:=bB D false 39 0 [0,3] [2] Dk (fun x=>M.qz af x.1.1 x.1.2.1) iU
def ael(m:(List (List UInt8))->Option Bool):ax K:=cB 330 iu (fun x=>m x.1.1)
def yX:Cx K:=aQ [(66,.plain)] [yk M.jE] [(9,aej),(4,aek)]
theorem N5:aJ yX:=aL aB _ (ae BJ ak)
theorem au0:bn yX (bc (bc (bm Tryz.f330) 0) 0) aej:=lk (cx:=yX) (sh:=IQ) (run:=fun n x=>M.ti x.1.1 x.1.2.1 n x.1.2.2.1) (bu:=auZ) N5 (fun m x=>by kernel_rfl) (ae ⟨cn,fun _ _ _=>rfl⟩ (ae ⟨bD,fun _ _ _=>rfl⟩ ak))
theorem au1:bn yX (bc (bm Tryz.f330) 0) aek:=lk (cx:=yX) (sh:=Dk) (run:=fun n x=>M.qz n x.1.1 x.1.2.1) (bu:=iT) N5 (fun m x=>by kernel_rfl) (ae ⟨cn,fun _ _ _=>rfl⟩ (ae ⟨bD,fun _ _ _=>rfl⟩ ak)) (hl:=(kd 1 (by kernel_rfl) (kQ (.mk (by kernel_rfl) au0))))
theorem au2:aj (ael (M.DY)):=aH (cx:=yX) true N5 Tryz.func330 (hl1 au1) ⟨zs0,fun x=>x.1.1⟩ (fun x=>by kernel_rfl)
def rP(y:Bool⊕Unit){R:Type}(k:KT R):R:=match y with|.inl a0=>kk k Ex.ret IN ((a0,()),((),()))|.inr a1=>kk k (Ex.exit 0) yd (((),()),((),()))
def rQ:List (cq K ((Bool)⊕Unit)):=[⟨Ex.ret,IN,fun x=>.inl x.1.1⟩,⟨(Ex.exit 0),yd,fun x=>.inr (())⟩]
def aem:bo K:=bB D false 18 1 [1,3] [2] IU (fun x=>M.pf af x.1.2.1 x.2.1) rP
def aen(m:M.aa->Option Bool):ax K:=cB 331 gV (fun x=>m x.1.1)
def Jo:Cx K:=aQ [] [] [(2,aem)]
theorem aeo:aJ Jo:=aL aB _ ak
theorem au3:bn Jo (bc (bm Tryz.f331) 0) aem:=lk (cx:=Jo) (sh:=IU) (run:=fun n x=>M.pf n x.1.2.1 x.2.1) (bu:=rQ) aeo (fun m x=>by kernel_rfl) (ae ⟨cn,fun _ _ _=>rfl⟩ (ae ⟨bD,fun _ _ _=>rfl⟩ ak))
theorem au4:aj (aen (M.v8)):=aH (cx:=Jo) true aeo Tryz.func331 (hl1 au3) ⟨zs0,fun x=>x.1.1⟩ (fun x=>by kernel_rfl)
def pj(m:M.aa->Int->Int->Option Bool):ax K:=cB 151 ⟨[.el U.Type,iq0,iq0],[]⟩ (fun x=>m x.1.1 x.1.2.1 x.1.2.2.1)
def aep(fy:M.aa->Int->Int->Option Bool):bo K:=bB D false 28 1 [1,2,3,7] [6] abR (fun x=>M.pn fy x.1.1 x.1.2.1 af x.1.2.2.2.1 x.2.1) rP
def Jp(fy:M.aa->Int->Int->Option Bool):Cx K:=aQ [(69,.plain),(151,.plain)] [qi M.qj,pj fy] [(4,aep fy)]
theorem aeq(fy:M.aa->Int->Int->Option Bool)(yY:aj (pj fy)):aJ (Jp fy):=aL aB _ (ae rO (ae yY ak))
theorem au5(fy:M.aa->Int->Int->Option Bool)(yY:aj (pj fy)):bn (Jp fy) (bc (bm Tryz.f151) 0) (aep fy):=lk (cx:=Jp fy) (sh:=abR) (run:=fun n x=>M.pn fy x.1.1 x.1.2.1 n x.1.2.2.2.1 x.2.1) (bu:=rQ) (aeq fy yY) (fun m x=>by kernel_rfl) (ae ⟨cn,fun _ _ _=>rfl⟩ (ae ⟨bD,fun _ _ _=>rfl⟩ ak))
theorem au6(fy:M.aa->Int->Int->Option Bool)(yY:aj (pj fy)):aj (pj (M.Jq fy)):=eR (cx:=Jp fy) (fz:=true) aB (aeq fy yY) cG ⟨Tryz.func151,by kernel_rfl⟩ (hl1 (au5 fy yY)) ⟨zs0,fun x=>x.1.1⟩ (fun x=>rfl) (fun x=>by kernel_rfl)
theorem aer:∀n,aj (pj (M.lO n))|0=>ia fun _=>rfl|n+1=>au6 (M.lO n) (aer n)
theorem N6:aj (pj (M.jH)):=aer af
def aes(m:M.aa->Option Bool):ax K:=cB 278 gV (fun x=>m x.1.1)
def aet:Cx K:=aQ [(69,.plain),(66,.plain),(330,.plain),(331,.plain),(151,.plain)] [qi M.qj,yk M.jE,ael M.DY,aen M.v8,pj M.jH] []
theorem au7:aJ aet:=aL aB _ (ae rO (ae BJ (ae au2 (ae au4 (ae N6 ak)))))
theorem au8:aj (aes (M.DZ)):=aH (cx:=aet) true au7 Tryz.func278 hq ⟨zs0,fun x=>x.1.1⟩ (fun x=>by kernel_rfl)
def tj(m:M.aa->Option Bool):ax K:=cB 240 gV (fun x=>m x.1.1)
def aeu(fA:M.aa->Option Bool):bo K:=bB D false 21 1 [1,3] [2] IU (fun x=>M.po fA af x.1.2.1 x.2.1) rP
def Jr(fA:M.aa->Option Bool):Cx K:=aQ [(278,.plain),(240,.plain)] [aes M.DZ,tj fA] [(4,aeu fA)]
theorem aev(fA:M.aa->Option Bool)(yZ:aj (tj fA)):aJ (Jr fA):=aL aB _ (ae au8 (ae yZ ak))
theorem au9(fA:M.aa->Option Bool)(yZ:aj (tj fA)):bn (Jr fA) (bc (bm Tryz.f240) 0) (aeu fA):=lk (cx:=Jr fA) (sh:=IU) (run:=fun n x=>M.po fA n x.1.2.1 x.2.1) (bu:=rQ) (aev fA yZ) (fun m x=>by kernel_rfl) (ae ⟨cn,fun _ _ _=>rfl⟩ (ae ⟨bD,fun _ _ _=>rfl⟩ ak))
theorem ava(fA:M.aa->Option Bool)(yZ:aj (tj fA)):aj (tj (M.Js fA)):=eR (cx:=Jr fA) (fz:=true) aB (aev fA yZ) cG ⟨Tryz.func240,by kernel_rfl⟩ (hl1 (au9 fA yZ)) ⟨zs0,fun x=>x.1.1⟩ (fun x=>rfl) (fun x=>by kernel_rfl)
theorem aew:∀n,aj (tj (M.pq n))|0=>ia fun _=>rfl|n+1=>ava (M.pq n) (aew n)
theorem avb:aj (tj (M.Jt)):=aew af
def tl(m:M.aa->Int->Option Int):ax K:=cI 255 IS (fun x=>m x.1.1 x.1.2.1)
def aex(y:Int){R:Type}(k:KT R):R:=match y with|a0=>kk k (Ex.exit 0) zs1 ((a0,()),())
def aey:List (cq K Int):=[⟨(Ex.exit 0),zs1,fun x=>x.1.1⟩]
def aez(fP:M.aa->Int->Option Int):bo K:=bB D false 26 0 [1,5,11,12,13] [5] abS (fun x=>M.tn fP x.1.1 x.1.2.2.1 x.1.2.2.2.1 af x.1.2.1 x.1.2.2.2.2.1) aex
def Ju(fP:M.aa->Int->Option Int):Cx K:=aQ [(255,.plain)] [tl fP] [(5,aez fP)]
theorem aeA(fP:M.aa->Int->Option Int)(za:aj (tl fP)):aJ (Ju fP):=aL aB _ (ae za ak)
theorem avc(fP:M.aa->Int->Option Int)(za:aj (tl fP)):bn (Ju fP) (bc (bm Tryz.f255) 0) (aez fP):=lk (cx:=Ju fP) (sh:=abS) (run:=fun n x=>M.tn fP x.1.1 x.1.2.2.1 x.1.2.2.2.1 n x.1.2.1 x.1.2.2.2.2.1) (bu:=aey) (aeA fP za) (fun m x=>by kernel_rfl) (ae ⟨bD,fun _ _ _=>rfl⟩ ak)
theorem avd(fP:M.aa->Int->Option Int)(za:aj (tl fP)):aj (tl (M.Jv fP)):=eR (cx:=Ju fP) (fz:=true) aB (aeA fP za) cG ⟨Tryz.func255,by kernel_rfl⟩ (hl1 (avc fP za)) ⟨zs1,fun x=>x.1.1⟩ (fun x=>rfl) (fun x=>by kernel_rfl)
theorem aeB:∀n,aj (tl (M.tp n))|0=>ia fun _=>rfl|n+1=>avd (M.tp n) (aeB n)
theorem ave:aj (tl (M.Jw)):=aeB af
def tq(m:M.aa->Option Int):ax K:=cI 256 gV (fun x=>m x.1.1)
def aeC(fQ:M.aa->Option Int):bo K:=bB D false 19 0 [3,7,8,9] [3] abT (fun x=>M.tu fQ x.1.2.1 x.1.2.2.1 af x.1.1 x.1.2.2.2.1) aex
def Jy(fQ:M.aa->Option Int):Cx K:=aQ [(256,.plain)] [tq fQ] [(3,aeC fQ)]
theorem aeD(fQ:M.aa->Option Int)(zb:aj (tq fQ)):aJ (Jy fQ):=aL aB _ (ae zb ak)
theorem avf(fQ:M.aa->Option Int)(zb:aj (tq fQ)):bn (Jy fQ) (bc (bm Tryz.f256) 0) (aeC fQ):=lk (cx:=Jy fQ) (sh:=abT) (run:=fun n x=>M.tu fQ x.1.2.1 x.1.2.2.1 n x.1.1 x.1.2.2.2.1) (bu:=aey) (aeD fQ zb) (fun m x=>by kernel_rfl) (ae ⟨bD,fun _ _ _=>rfl⟩ ak)
theorem avg(fQ:M.aa->Option Int)(zb:aj (tq fQ)):aj (tq (M.Jz fQ)):=eR (cx:=Jy fQ) (fz:=true) aB (aeD fQ zb) cG ⟨Tryz.func256,by kernel_rfl⟩ (hl1 (avf fQ zb)) ⟨zs1,fun x=>x.1.1⟩ (fun x=>rfl) (fun x=>by kernel_rfl)
theorem aeE:∀n,aj (tq (M.tw n))|0=>ia fun _=>rfl|n+1=>avg (M.tw n) (aeE n)
theorem avh:aj (tq (M.JA)):=aeE af
def kZ(m:M.aa->Option Bool):ax K:=cB 257 gV (fun x=>m x.1.1)
def aeF(m:M.aa->Option Bool):ax K:=cB 299 gV (fun x=>m x.1.1)
def aeG(cL:M.aa->Option Bool):Cx K:=aQ [(257,.plain)] [kZ cL] []
theorem avi(cL:M.aa->Option Bool)(ahK:aj (kZ cL)):aJ (aeG cL):=aL aB _ (ae ahK ak)
theorem avj(cL:M.aa->Option Bool)(ahK:aj (kZ cL)):aj (aeF (M.D1 cL)):=eR (cx:=aeG cL) (fz:=true) aB (avi cL ahK) cG ⟨Tryz.func299,by kernel_rfl⟩ hq ⟨zs0,fun x=>x.1.1⟩ (fun x=>rfl) (fun x=>by kernel_rfl)
def aeH(cL:M.aa->Option Bool):bo K:=bB D false 19 0 [0,1,7,8] [4] abU (fun x=>M.wa cL x.1.1 x.1.2.2.1 af x.1.2.2.2.1) iW
def aeI(m:(List M.aa)->Option Int):ax K:=cI 216 ⟨[.ah U.Type,.fn 299 []],[]⟩ (fun x=>m x.1.1)
def JB(cL:M.aa->Option Bool):Cx K:=aQ [(299,.plain)] [aeF (M.D1 cL)] [(2,aeH cL)]
theorem aeJ(cL:M.aa->Option Bool)(ahK:aj (kZ cL)):aJ (JB cL):=aL aB _ (ae (avj cL ahK) ak)
theorem avk(cL:M.aa->Option Bool)(ahK:aj (kZ cL)):bn (JB cL) (bc (bm Tryz.f216) 0) (aeH cL):=lk (cx:=JB cL) (sh:=abU) (run:=fun n x=>M.wa cL x.1.1 x.1.2.2.1 n x.1.2.2.2.1) (bu:=iY) (aeJ cL ahK) (fun m x=>by kernel_rfl) (ae ⟨cn,fun _ _ _=>rfl⟩ (ae ⟨bD,fun _ _ _=>rfl⟩ ak))
theorem avl(cL:M.aa->Option Bool)(ahK:aj (kZ cL)):aj (aeI (M.JC cL)):=eR (cx:=JB cL) (fz:=true) aB (aeJ cL ahK) cG ⟨Tryz.func216,by kernel_rfl⟩ (hl1 (avk cL ahK)) ⟨zs1,fun x=>x.1.1⟩ (fun x=>rfl) (fun x=>by kernel_rfl)
def aeK(m:(List M.aa)->Option Bool):ax K:=cB 172 ⟨[.ah U.Type,.fn 299 []],[]⟩ (fun x=>m x.1.1)
def aeL(cL:M.aa->Option Bool):Cx K:=aQ [(216,.plain)] [aeI (M.JC cL)] []
theorem avm(cL:M.aa->Option Bool)(ahK:aj (kZ cL)):aJ (aeL cL):=aL aB _ (ae (avl cL ahK) ak)
theorem avn(cL:M.aa->Option Bool)(ahK:aj (kZ cL)):aj (aeK (M.zc cL)):=eR (cx:=aeL cL) (fz:=true) aB (avm cL ahK) cG ⟨Tryz.func172,by kernel_rfl⟩ hq ⟨zs0,fun x=>x.1.1⟩ (fun x=>rfl) (fun x=>by kernel_rfl)
def ma(m:Int->Int->Int->Option Bool):ax K:=cB 87 ⟨[iq0,iq0,iq0],[]⟩ (fun x=>m x.1.1 x.1.2.1 x.1.2.2.1)
theorem mP:aj (ma (M.mb)):=aH (cx:=di) true dk Tryz.func87 hq ⟨zs0,fun x=>x.1.1⟩ (fun x=>by kernel_rfl)
def N7(m:(List (List UInt8))->Option Int):ax K:=cI 303 iu (fun x=>m x.1.1)
theorem aeM:aj (N7 (M.N8)):=aH (cx:=di) true dk Tryz.func303 hq ⟨zs1,fun x=>x.1.1⟩ (fun x=>by kernel_rfl)
def aeN:bo K:=bB D false 75 0 [0,7,8] [0,2] Hz (fun x=>M.tz x.1.1 x.1.2.1 af x.1.2.2.1) M5
def yx(m:(List UInt8)->Option Bool):ax K:=cB 82 dO (fun x=>m x.1.1)
def JD:Cx K:=aQ [] [] [(2,aeN)]
theorem aeO:aJ JD:=aL aB _ ak
theorem avo:bn JD (bc (bm Tryz.f82) 0) aeN:=lk (cx:=JD) (sh:=Hz) (run:=fun n x=>M.tz x.1.1 x.1.2.1 n x.1.2.2.1) (bu:=M7) aeO (fun m x=>by kernel_rfl) (ae ⟨cn,fun _ _ _=>rfl⟩ (ae ⟨bD,fun _ _ _=>rfl⟩ ak))
theorem Ce:aj (yx (M.jF)):=aH (cx:=JD) true aeO Tryz.func82 (hl1 avo) ⟨zs0,fun x=>x.1.1⟩ (fun x=>by kernel_rfl)
def aeP(m:(List UInt8)->Option Bool):ax K:=cB 342 dO (fun x=>m x.1.1)
def N9:Cx K:=aQ [(82,.plain)] [yx M.jF] []
theorem aeQ:aJ N9:=aL aB _ (ae Ce ak)
theorem avp:aj (aeP (M.D2)):=aH (cx:=N9) true aeQ Tryz.func342 hq ⟨zs0,fun x=>x.1.1⟩ (fun x=>by kernel_rfl)
def aeR:bo K:=bB D false 19 0 [0,1,7,8] [4] abV (fun x=>M.wb x.1.1 x.1.2.2.1 af x.1.2.2.2.1) iW
def aeS(m:(List (List UInt8))->Option Int):ax K:=cI 211 ⟨[.ah U.str,.fn 342 []],[]⟩ (fun x=>m x.1.1)
def JE:Cx K:=aQ [(342,.plain)] [aeP M.D2] [(2,aeR)]
theorem aeT:aJ JE:=aL aB _ (ae avp ak)
theorem avq:bn JE (bc (bm Tryz.f211) 0) aeR:=lk (cx:=JE) (sh:=abV) (run:=fun n x=>M.wb x.1.1 x.1.2.2.1 n x.1.2.2.2.1) (bu:=iY) aeT (fun m x=>by kernel_rfl) (ae ⟨cn,fun _ _ _=>rfl⟩ (ae ⟨bD,fun _ _ _=>rfl⟩ ak))
theorem avr:aj (aeS (M.JF)):=aH (cx:=JE) true aeT Tryz.func211 (hl1 avq) ⟨zs1,fun x=>x.1.1⟩ (fun x=>by kernel_rfl)
def aeU(m:(List (List UInt8))->Option Bool):ax K:=cB 165 ⟨[.ah U.str,.fn 342 []],[]⟩ (fun x=>m x.1.1)
def aeV:Cx K:=aQ [(211,.plain)] [aeS M.JF] []
theorem avs:aJ aeV:=aL aB _ (ae avr ak)
theorem avt:aj (aeU (M.D3)):=aH (cx:=aeV) true avs Tryz.func165 hq ⟨zs0,fun x=>x.1.1⟩ (fun x=>by kernel_rfl)
def aeW(m:(List (List UInt8))->Option Bool):ax K:=cB 300 iu (fun x=>m x.1.1)
def aeX:Cx K:=aQ [(303,.plain),(87,.plain),(137,.plain),(165,.plain)] [N7 M.N8,ma M.mb,ym M.kS,aeU M.D3] []
theorem avu:aJ aeX:=aL aB _ (ae aeM (ae mP (ae HG (ae avt ak))))
theorem avv:aj (aeW (M.D4)):=aH (cx:=aeX) true avu Tryz.func300 hq ⟨zs0,fun x=>x.1.1⟩ (fun x=>by kernel_rfl)
def Oa(m:(List M.aa)->Option Int):ax K:=cI 302 lM (fun x=>m x.1.1)
theorem aeY:aj (Oa (M.Oc)):=aH (cx:=di) true dk Tryz.func302 hq ⟨zs1,fun x=>x.1.1⟩ (fun x=>by kernel_rfl)
def yu(m:M.aa->Option Bool):ax K:=cB 140 gV (fun x=>m x.1.1)
theorem Cd:aj (yu (M.yv)):=aH (cx:=di) true dk Tryz.func140 hq ⟨zs0,fun x=>x.1.1⟩ (fun x=>by kernel_rfl)
def aeZ:bo K:=bB D false 19 0 [0,1,7,8] [4] abW (fun x=>M.wc x.1.1 x.1.2.2.1 af x.1.2.2.2.1) iW
def ae0(m:(List M.aa)->Option Int):ax K:=cI 216 ⟨[.ah U.Type,.fn 140 []],[]⟩ (fun x=>m x.1.1)
def JG:Cx K:=aQ [(140,.plain)] [yu M.yv] [(2,aeZ)]
theorem ae1:aJ JG:=aL aB _ (ae Cd ak)
theorem avw:bn JG (bc (bm Tryz.f216) 0) aeZ:=lk (cx:=JG) (sh:=abW) (run:=fun n x=>M.wc x.1.1 x.1.2.2.1 n x.1.2.2.2.1) (bu:=iY) ae1 (fun m x=>by kernel_rfl) (ae ⟨cn,fun _ _ _=>rfl⟩ (ae ⟨bD,fun _ _ _=>rfl⟩ ak))
theorem avx:aj (ae0 (M.JH)):=aH (cx:=JG) true ae1 Tryz.func216 (hl1 avw) ⟨zs1,fun x=>x.1.1⟩ (fun x=>by kernel_rfl)
def ae2(m:(List M.aa)->Option Bool):ax K:=cB 172 ⟨[.ah U.Type,.fn 140 []],[]⟩ (fun x=>m x.1.1)
def ae3:Cx K:=aQ [(216,.plain)] [ae0 M.JH] []
theorem avy:aJ ae3:=aL aB _ (ae avx ak)
theorem avz:aj (ae2 (M.D5)):=aH (cx:=ae3) true avy Tryz.func172 hq ⟨zs0,fun x=>x.1.1⟩ (fun x=>by kernel_rfl)
def ae4(m:M.aa->Int->Option Bool):ax K:=cB 301 IS (fun x=>m x.1.1 x.1.2.1)
def ae5:Cx K:=aQ [(302,.plain),(172,.plain)] [Oa M.Oc,ae2 M.D5] []
theorem avA:aJ ae5:=aL aB _ (ae aeY (ae avz ak))
theorem avC:aj (ae4 (M.tA)):=aH (cx:=ae5) true avA Tryz.func301 hq ⟨zs0,fun x=>x.1.1⟩ (fun x=>by kernel_rfl)
def ae6:bo K:=bB D false 19 0 [0,1,7,8] [4] abX (fun x=>M.wd x.1.1 x.1.2.1 x.1.2.2.1 af x.1.2.2.2.1) iW
def ae7(m:(List Int)->Int->Option Int):ax K:=cI 258 ⟨[.ah U.i64,iq0],[]⟩ (fun x=>m x.1.1 x.1.2.1)
def JI:Cx K:=aQ [] [] [(2,ae6)]
theorem ae8:aJ JI:=aL aB _ ak
theorem avD:bn JI (bc (bm Tryz.f258) 0) ae6:=lk (cx:=JI) (sh:=abX) (run:=fun n x=>M.wd x.1.1 x.1.2.1 x.1.2.2.1 n x.1.2.2.2.1) (bu:=iY) ae8 (fun m x=>by kernel_rfl) (ae ⟨cn,fun _ _ _=>rfl⟩ (ae ⟨bD,fun _ _ _=>rfl⟩ ak))
theorem avE:aj (ae7 (M.JJ)):=aH (cx:=JI) true ae8 Tryz.func258 (hl1 avD) ⟨zs1,fun x=>x.1.1⟩ (fun x=>by kernel_rfl)
def ae9(m:(List Int)->Int->Option Bool):ax K:=cB 217 ⟨[.ah U.i64,iq0],[]⟩ (fun x=>m x.1.1 x.1.2.1)
def afa:Cx K:=aQ [(258,.plain)] [ae7 M.JJ] []
theorem avF:aJ afa:=aL aB _ (ae avE ak)
theorem avG:aj (ae9 (M.D6)):=aH (cx:=afa) true avF Tryz.func217 hq ⟨zs0,fun x=>x.1.1⟩ (fun x=>by kernel_rfl)
def jI(m:M.aa->(List Int)->Option Bool):ax K:=cB 175 ⟨[.el U.Type,.ah U.i64],[]⟩ (fun x=>m x.1.1 x.1.2.1)
def afb(m:M.aa->(List Int)->Option Bool):ax K:=cB 218 ⟨[.el U.Type,.rp U.mT 0],[]⟩ (fun x=>m x.1.1 x.1.2.1)
def afc(cM:M.aa->(List Int)->Option Bool):Cx K:=aQ [(175,.plain)] [jI cM] []
theorem avH(cM:M.aa->(List Int)->Option Bool)(i6:aj (jI cM)):aJ (afc cM):=aL aB _ (ae i6 ak)
theorem avI(cM:M.aa->(List Int)->Option Bool)(i6:aj (jI cM)):aj (afb (M.D7 cM)):=eR (cx:=afc cM) (fz:=true) aB (avH cM i6) cG ⟨Tryz.func218,by kernel_rfl⟩ hq ⟨zs0,fun x=>x.1.1⟩ (fun x=>rfl) (fun x=>by kernel_rfl)
def afd(cM:M.aa->(List Int)->Option Bool):bo K:=bB D false 19 0 [0,1,7,8] [4] abY (fun x=>M.we cM x.1.1 x.1.2.1.1 x.1.2.2.1 af x.1.2.2.2.1) iW
def afe(m:(List M.aa)->(List Int)->Option Int):ax K:=cI 216 abZ (fun x=>m x.1.1 x.1.2.1.1)
def JK(cM:M.aa->(List Int)->Option Bool):Cx K:=aQ [(218,.plain)] [afb (M.D7 cM)] [(2,afd cM)]
theorem aff(cM:M.aa->(List Int)->Option Bool)(i6:aj (jI cM)):aJ (JK cM):=aL aB _ (ae (avI cM i6) ak)
theorem avJ(cM:M.aa->(List Int)->Option Bool)(i6:aj (jI cM)):bn (JK cM) (bc (bm Tryz.f216) 0) (afd cM):=lk (cx:=JK cM) (sh:=abY) (run:=fun n x=>M.we cM x.1.1 x.1.2.1.1 x.1.2.2.1 n x.1.2.2.2.1) (bu:=iY) (aff cM i6) (fun m x=>by kernel_rfl) (ae ⟨cn,fun _ _ _=>rfl⟩ (ae ⟨bD,fun _ _ _=>rfl⟩ ak))
theorem avK(cM:M.aa->(List Int)->Option Bool)(i6:aj (jI cM)):aj (afe (M.JL cM)):=eR (cx:=JK cM) (fz:=true) aB (aff cM i6) cG ⟨Tryz.func216,by kernel_rfl⟩ (hl1 (avJ cM i6)) ⟨zs1,fun x=>x.1.1⟩ (fun x=>rfl) (fun x=>by kernel_rfl)
def afg(m:(List M.aa)->(List Int)->Option Bool):ax K:=cB 172 abZ (fun x=>m x.1.1 x.1.2.1.1)
def afh(cM:M.aa->(List Int)->Option Bool):Cx K:=aQ [(216,.plain)] [afe (M.JL cM)] []
theorem avL(cM:M.aa->(List Int)->Option Bool)(i6:aj (jI cM)):aJ (afh cM):=aL aB _ (ae (avK cM i6) ak)
theorem avM(cM:M.aa->(List Int)->Option Bool)(i6:aj (jI cM)):aj (afg (M.D8 cM)):=eR (cx:=afh cM) (fz:=true) aB (avL cM i6) cG ⟨Tryz.func172,by kernel_rfl⟩ hq ⟨zs0,fun x=>x.1.1⟩ (fun x=>rfl) (fun x=>by kernel_rfl)
def afi(cM:M.aa->(List Int)->Option Bool):Cx K:=aQ [(217,.plain),(172,.plain)] [ae9 M.D6,afg (M.D8 cM)] []
theorem avN(cM:M.aa->(List Int)->Option Bool)(i6:aj (jI cM)):aJ (afi cM):=aL aB _ (ae avG (ae (avM cM i6) ak))
theorem avO(cM:M.aa->(List Int)->Option Bool)(i6:aj (jI cM)):aj (jI (M.JM cM)):=eR (cx:=afi cM) (fz:=true) aB (avN cM i6) cG ⟨Tryz.func175,by kernel_rfl⟩ hq ⟨zs0,fun x=>x.1.1⟩ (fun x=>rfl) (fun x=>by kernel_rfl)
theorem afj:∀n,aj (jI (M.mg n))|0=>ia fun _=>rfl|n+1=>avO (M.mg n) (afj n)
theorem Oe:aj (jI (M.kf)):=afj af
def afk(cL:M.aa->Option Bool):Cx K:=aQ [(172,.plain),(87,.plain),(300,.plain),(82,.plain),(301,.plain),(302,.plain),(303,.plain),(175,.plain)] [aeK (M.zc cL),ma M.mb,aeW M.D4,yx M.jF,ae4 M.tA,Oa M.Oc,N7 M.N8,jI M.kf] []
theorem avP(cL:M.aa->Option Bool)(ahK:aj (kZ cL)):aJ (afk cL):=aL aB _ (ae (avn cL ahK) (ae mP (ae avv (ae Ce (ae avC (ae aeY (ae aeM (ae Oe ak))))))))
theorem avQ(cL:M.aa->Option Bool)(ahK:aj (kZ cL)):aj (kZ (M.D9 cL)):=eR (cx:=afk cL) (fz:=true) aB (avP cL ahK) cG ⟨Tryz.func257,by kernel_rfl⟩ hq ⟨zs0,fun x=>x.1.1⟩ (fun x=>rfl) (fun x=>by kernel_rfl)
theorem afl:∀n,aj (kZ (M.qA n))|0=>ia fun _=>rfl|n+1=>avQ (M.qA n) (afl n)
theorem avR:aj (kZ (M.JO)):=afl af
def MR(m:M.aa->Option Bool):ax K:=cB 201 gV (fun x=>m x.1.1)
def afm:Cx K:=aQ [(239,.plain),(240,.plain)] [te M.Jm,tj M.Jt] []
theorem avS:aJ afm:=aL aB _ (ae auW (ae avb ak))
theorem Vg:aj (MR (M.rX)):=aH (cx:=afm) true avS Tryz.func201 hq ⟨zs0,fun x=>x.1.1⟩ (fun x=>by kernel_rfl)
def afn(m:M.aw->Int->Option Int):ax K:=cI 237 ⟨[.el U.Param,iq0],[]⟩ (fun x=>m x.1.1 x.1.2.1)
def afo:Cx K:=aQ [(200,.plain)] [mV M.yU] []
theorem avT:aJ afo:=aL aB _ (ae ad5 ak)
theorem avU:aj (afn (M.Ea)):=aH (cx:=afo) true avT Tryz.func237 hq ⟨zs1,fun x=>x.1.1⟩ (fun x=>by kernel_rfl)
def afp:bo K:=bB D false 27 0 [0,1,5] [1,4] ab1 (fun x=>M.wh x.1.1 af x.1.2.1 x.1.2.2.1) oh
def afq(m:(List M.aw)->Int->Option Int):ax K:=cI 199 ⟨[.ah U.Param,iq0],[]⟩ (fun x=>m x.1.1 x.1.2.1)
def JP:Cx K:=aQ [(237,.plain)] [afn M.Ea] [(5,afp)]
theorem afr:aJ JP:=aL aB _ (ae avU ak)
theorem avV:bn JP (bc (bm Tryz.f199) 0) afp:=lk (cx:=JP) (sh:=ab1) (run:=fun n x=>M.wh x.1.1 n x.1.2.1 x.1.2.2.1) (bu:=oi) afr (fun m x=>by kernel_rfl) (ae ⟨cn,fun _ _ _=>rfl⟩ (ae ⟨bD,fun _ _ _=>rfl⟩ ak))
theorem avW:aj (afq (M.Eb)):=aH (cx:=JP) true afr Tryz.func199 (hl1 avV) ⟨zs1,fun x=>x.1.1⟩ (fun x=>by kernel_rfl)
def afs(m:M.ay->Int->Option Int):ax K:=cI 147 ⟨[.el U.fO,iq0],[]⟩ (fun x=>m x.1.1 x.1.2.1)
def aft:Cx K:=aQ [(199,.plain),(200,.plain)] [afq M.Eb,mV M.yU] []
theorem avX:aJ aft:=aL aB _ (ae avW (ae ad5 ak))
theorem avY:aj (afs (M.Ec)):=aH (cx:=aft) true avX Tryz.func147 hq ⟨zs1,fun x=>x.1.1⟩ (fun x=>by kernel_rfl)
def afu(m:M.aF->Int->Option Int):ax K:=cI 104 ⟨[.el U.Func,iq0],[]⟩ (fun x=>m x.1.1 x.1.2.1)
def afv:Cx K:=aQ [(147,.plain)] [afs M.Ec] []
theorem avZ:aJ afv:=aL aB _ (ae avY ak)
theorem av1:aj (afu (M.Ed)):=aH (cx:=afv) true avZ Tryz.func104 hq ⟨zs1,fun x=>x.1.1⟩ (fun x=>by kernel_rfl)
def afw:bo K:=bB D false 27 0 [0,1,5] [1,4] ab2 (fun x=>M.wi x.1.1 af x.1.2.1 x.1.2.2.1) oh
def afx(m:(List M.aF)->Int->Option Int):ax K:=cI 63 ⟨[.ah U.Func,iq0],[]⟩ (fun x=>m x.1.1 x.1.2.1)
def JQ:Cx K:=aQ [(104,.plain)] [afu M.Ed] [(5,afw)]
theorem afy:aJ JQ:=aL aB _ (ae av1 ak)
theorem av2:bn JQ (bc (bm Tryz.f63) 0) afw:=lk (cx:=JQ) (sh:=ab2) (run:=fun n x=>M.wi x.1.1 n x.1.2.1 x.1.2.2.1) (bu:=oi) afy (fun m x=>by kernel_rfl) (ae ⟨cn,fun _ _ _=>rfl⟩ (ae ⟨bD,fun _ _ _=>rfl⟩ ak))
theorem av3:aj (afx (M.Ee)):=aH (cx:=JQ) true afy Tryz.func63 (hl1 av2) ⟨zs1,fun x=>x.1.1⟩ (fun x=>by kernel_rfl)
def afz(m:M.ar->Int->Option Int):ax K:=cI 30 ⟨[.el U.aT,iq0],[]⟩ (fun x=>m x.1.1 x.1.2.1)
def afA:Cx K:=aQ [(62,.plain),(63,.plain)] [N4 M.vU,afx M.Ee] []
theorem av4:aJ afA:=aL aB _ (ae adY (ae av3 ak))
theorem av5:aj (afz (M.Ef)):=aH (cx:=afA) true av4 Tryz.func30 hq ⟨zs1,fun x=>x.1.1⟩ (fun x=>by kernel_rfl)
def afB:bo K:=bB D false 27 0 [0,1,5] [1,4] IV (fun x=>M.wj x.1.1 af x.1.2.1 x.1.2.2.1) oh
def Uu(m:(List M.ar)->Int->Option Int):ax K:=cI 9 NN (fun x=>m x.1.1 x.1.2.1)
def JR:Cx K:=aQ [(30,.plain)] [afz M.Ef] [(5,afB)]
theorem afC:aJ JR:=aL aB _ (ae av5 ak)
theorem av6:bn JR (bc (bm Tryz.f9) 0) afB:=lk (cx:=JR) (sh:=IV) (run:=fun n x=>M.wj x.1.1 n x.1.2.1 x.1.2.2.1) (bu:=oi) afC (fun m x=>by kernel_rfl) (ae ⟨cn,fun _ _ _=>rfl⟩ (ae ⟨bD,fun _ _ _=>rfl⟩ ak))
theorem anB:aj (Uu (M.xY)):=aH (cx:=JR) true afC Tryz.func9 (hl1 av6) ⟨zs1,fun x=>x.1.1⟩ (fun x=>by kernel_rfl)
def av7(y:Int⊕((List UInt8)×Int×Int×Int)){R:Type}(k:KT R):R:=match y with|.inl a0=>kk k Ex.ret ab3 (((),((),((),((),(a0,()))))),())|.inr a1=>kk k (Ex.exit 0) ab4 ((a1.1,(a1.2.1,(a1.2.2.1,(a1.2.2.2,((),()))))),())
def av8:List (cq K ((Int)⊕((List UInt8)×Int×Int×Int))):=[⟨Ex.ret,ab3,fun x=>.inl x.1.2.2.2.2.1⟩,⟨(Ex.exit 0),ab4,fun x=>.inr ((x.1.1,x.1.2.1,x.1.2.2.1,x.1.2.2.2.1))⟩]
def afD:bo K:=bB D false 71 0 [0,3,4,5,6] [0,3,4,5,2] ab5 (fun x=>M.pt x.1.1 af x.1.2.1 x.1.2.2.1 x.1.2.2.2.1 x.1.2.2.2.2.1) av7
def sC(m:Int->Option ((List UInt8))):ax K:=cS 39 zs1 (fun x=>m x.1.1)
def afE(mh:Int->Option ((List UInt8))):Cx K:=aQ [(39,.plain)] [sC mh] []
theorem av9(mh:Int->Option ((List UInt8)))(Of:aj (sC mh)):aJ (afE mh):=aL aB _ (ae Of ak)
theorem awc(mh:Int->Option ((List UInt8)))(Of:aj (sC mh)):aj (sC (M.tB mh)):=eR (cx:=afE mh) (fz:=true) aB (av9 mh Of) cG ⟨Tryz.func39,by kernel_rfl⟩ hq ⟨dO,fun x=>x.1.1⟩ (fun x=>rfl) (fun x=>by kernel_rfl)
theorem afF:∀n,aj (sC (M.lP n))|0=>ia fun _=>rfl|n+1=>awc (M.lP n) (afF n)
theorem Zr:aj (sC (M.mR)):=afF af
def afG(m:Int->Option ((List UInt8))):ax K:=cS 148 zs1 (fun x=>m x.1.1)
def afH:Cx K:=aQ [(39,.plain)] [sC M.mR] []
theorem awd:aJ afH:=aL aB _ (ae Zr ak)
theorem awe:aj (afG (M.Eg)):=aH (cx:=afH) true awd Tryz.func148 hq ⟨dO,fun x=>x.1.1⟩ (fun x=>by kernel_rfl)
def afI(m:(List UInt8)->Option Int):ax K:=cI 106 dO (fun x=>m x.1.1)
def JS:Cx K:=aQ [(69,.plain),(148,.plain)] [qi M.qj,afG M.Eg] [(3,afD)]
theorem afJ:aJ JS:=aL aB _ (ae rO (ae awe ak))
theorem awf:bn JS (bc (bm Tryz.f106) 0) afD:=lk (cx:=JS) (sh:=ab5) (run:=fun n x=>M.pt x.1.1 n x.1.2.1 x.1.2.2.1 x.1.2.2.2.1 x.1.2.2.2.2.1) (bu:=av8) afJ (fun m x=>by kernel_rfl) (ae ⟨cn,fun _ _ _=>rfl⟩ (ae ⟨bD,fun _ _ _=>rfl⟩ ak))
theorem awg:aj (afI (M.Eh)):=aH (cx:=JS) true afJ Tryz.func106 (hl1 awf) ⟨zs1,fun x=>x.1.1⟩ (fun x=>by kernel_rfl)
def M3(m:(List UInt8)->Option Bool):ax K:=cB 67 dO (fun x=>m x.1.1)
def afK:Cx K:=aQ [(106,.plain)] [afI M.Eh] []
theorem awh:aJ afK:=aL aB _ (ae awg ak)
theorem Wa:aj (M3 (M.vl)):=aH (cx:=afK) true awh Tryz.func67 hq ⟨zs0,fun x=>x.1.1⟩ (fun x=>by kernel_rfl)
def awi(y:Bool⊕(M.ar)){R:Type}(k:KT R):R:=match y with|.inl a0=>kk k Ex.ret xZ (((),(a0,())),((),()))|.inr a1=>kk k (Ex.exit 0) ⟨[.ptr 0 0,.any],[.el U.aT]⟩ (((),((),())),(a1,()))
def awj:List (cq K ((Bool)⊕(M.ar))):=[⟨Ex.ret,xZ,fun x=>.inl x.1.2.1⟩,⟨(Ex.exit 0),⟨[.ptr 0 0,.any],[.el U.aT]⟩,fun x=>.inr (x.2.1)⟩]
def afL:bo K:=bB D false 122 1 [1,3] [1,2] IW (fun x=>M.pv x.2.1 af x.1.2.1) awi
def awk(y:Bool⊕(Int×M.ay)){R:Type}(k:KT R):R:=match y with|.inl a0=>kk k Ex.ret yR (((),((),(a0,()))),((),((),())))|.inr a1=>kk k (Ex.exit 2) ab6 (((),(a1.1,((),()))),(a1.2,((),())))
def awl:List (cq K ((Bool)⊕(Int×M.ay))):=[⟨Ex.ret,yR,fun x=>.inl x.1.2.2.1⟩,⟨(Ex.exit 2),ab6,fun x=>.inr ((x.1.2.1,x.2.1))⟩]
def afM:bo K:=bB D false 63 2 [1,3,4,5] [1,3,2] ab7 (fun x=>M.pw x.1.2.1 af x.1.2.2.2.1 x.2.1 x.2.2.1) awk
def afN:bo K:=bB D false 63 1 [1,3] [2] IX (fun x=>M.px af x.1.2.1 x.2.1) rP
def afO(m:M.ay->Option Bool):ax K:=cB 149 lL (fun x=>m x.1.1)
def zd:Cx K:=aQ [(201,.plain),(151,.plain),(66,.plain)] [MR M.rX,pj M.jH,yk M.jE] [(10,afM),(4,afN)]
theorem Og:aJ zd:=aL aB _ (ae Vg (ae N6 (ae BJ ak)))
theorem awm:bn zd (bc (bc (bm Tryz.f149) 0) 0) afM:=lk (cx:=zd) (sh:=ab7) (run:=fun n x=>M.pw x.1.2.1 n x.1.2.2.2.1 x.2.1 x.2.2.1) (bu:=awl) Og (fun m x=>by kernel_rfl) (ae ⟨cn,fun _ _ _=>rfl⟩ (ae ⟨bD,fun _ _ _=>rfl⟩ ak))
theorem awn:bn zd (bc (bm Tryz.f149) 0) afN:=lk (cx:=zd) (sh:=IX) (run:=fun n x=>M.px n x.1.2.1 x.2.1) (bu:=rQ) Og (fun m x=>by kernel_rfl) (ae ⟨cn,fun _ _ _=>rfl⟩ (ae ⟨bD,fun _ _ _=>rfl⟩ ak)) (hl:=(kd 1 (by kernel_rfl) (kQ (.mk (by kernel_rfl) awm))))
theorem awo:aj (afO (M.Ei)):=aH (cx:=zd) true Og Tryz.func149 (hl1 awn) ⟨zs0,fun x=>x.1.1⟩ (fun x=>by kernel_rfl)
def awp(y:(List UInt8)×Bool×(List (List UInt8))){R:Type}(k:KT R):R:=match y with|a0=>kk k (Ex.exit 0) ab8 ((a0.1,((),(a0.2.1,()))),((),(a0.2.2,())))
def awq:List (cq K ((List UInt8)×Bool×(List (List UInt8)))):=[⟨(Ex.exit 0),ab8,fun x=>(x.1.1,x.1.2.2.1,x.2.2.1)⟩]
def afP:bo K:=bB D false 49 1 [0,1,5,6,7] [1,5,6] ab9 (fun x=>M.tC x.1.1 x.1.2.1 af x.1.2.2.2.1 x.1.2.2.2.2.1 x.2.2.1) awp
def afQ(m:(List (List UInt8))->(List UInt8)->Option ((List (List UInt8)))):ax K:={f:=241,sh:=NP,R:=(List (List UInt8)),run:=fun x=>m x.1.1 x.1.2.1,dflt:=default,out:=fun r=>(Sh.enc D (.ah U.str) r,bh.encs D [] ())}
def JU:Cx K:=aQ [] [] [(4,afP)]
theorem afR:aJ JU:=aL aB _ ak
theorem awr:bn JU (bc (bm Tryz.f241) 0) afP:=lk (cx:=JU) (sh:=ab9) (run:=fun n x=>M.tC x.1.1 x.1.2.1 n x.1.2.2.2.1 x.1.2.2.2.2.1 x.2.2.1) (bu:=awq) afR (fun m x=>by kernel_rfl) (ae ⟨bD,fun _ _ _=>rfl⟩ ak)
theorem aws:aj (afQ (M.Ej)):=aH (cx:=JU) true afR Tryz.func241 (hl1 awr) ⟨iu,fun x=>x.1.1⟩ (fun x=>by kernel_rfl)
def tD(m:M.aa->(List (List UInt8))->Option ((List (List UInt8)))):ax K:={f:=202,sh:=⟨[.el U.Type,.ah U.str],[]⟩,R:=(List (List UInt8)),run:=fun x=>m x.1.1 x.1.2.1,dflt:=default,out:=fun r=>(Sh.enc D (.ah U.str) r,bh.encs D [] ())}
def awt(y:(List (List UInt8))){R:Type}(k:KT R):R:=match y with|a0=>kk k (Ex.exit 0) ⟨[.ah U.str],[.dead]⟩ ((a0,()),((),()))
def awu:List (cq K ((List (List UInt8)))):=[⟨(Ex.exit 0),⟨[.ah U.str],[.dead]⟩,fun x=>x.1.1⟩]
def afS(fB:M.aa->(List (List UInt8))->Option ((List (List UInt8)))):bo K:=bB D false 28 1 [1,2,5] [1] aca (fun x=>M.qB fB af x.1.1 x.1.2.2.1 x.2.1) awt
def JV(fB:M.aa->(List (List UInt8))->Option ((List (List UInt8)))):Cx K:=aQ [(241,.cT),(202,.cT)] [afQ M.Ej,tD fB] [(4,afS fB)]
theorem afT(fB:M.aa->(List (List UInt8))->Option ((List (List UInt8))))(ze:aj (tD fB)):aJ (JV fB):=aL aB _ (ae aws (ae ze ak))
theorem awv(fB:M.aa->(List (List UInt8))->Option ((List (List UInt8))))(ze:aj (tD fB)):bn (JV fB) (bc (bm Tryz.f202) 0) (afS fB):=lk (cx:=JV fB) (sh:=aca) (run:=fun n x=>M.qB fB n x.1.1 x.1.2.2.1 x.2.1) (bu:=awu) (afT fB ze) (fun m x=>by kernel_rfl) (ae ⟨bD,fun _ _ _=>rfl⟩ ak)
theorem aww(fB:M.aa->(List (List UInt8))->Option ((List (List UInt8))))(ze:aj (tD fB)):aj (tD (M.JW fB)):=eR (cx:=JV fB) (fz:=true) aB (afT fB ze) cG ⟨Tryz.func202,by kernel_rfl⟩ (hl1 (awv fB ze)) ⟨iu,fun x=>x.1.1⟩ (fun x=>rfl) (fun x=>by kernel_rfl)
theorem afU:∀n,aj (tD (M.qC n))|0=>ia fun _=>rfl|n+1=>aww (M.qC n) (afU n)
theorem awx:aj (tD (M.zf)):=afU af
def awy(y:(List (List UInt8))×(List (List UInt8))){R:Type}(k:KT R):R:=match y with|a0=>kk k (Ex.exit 0) ⟨[.ah U.str,.ah U.str],[.dead]⟩ ((a0.1,(a0.2,())),((),()))
def awz:List (cq K ((List (List UInt8))×(List (List UInt8)))):=[⟨(Ex.exit 0),⟨[.ah U.str,.ah U.str],[.dead]⟩,fun x=>(x.1.1,x.1.2.1)⟩]
def afV:bo K:=bB D false 55 1 [1,2,5,6] [1,5] acb (fun x=>M.wk x.1.1 af x.1.2.2.1 x.1.2.2.2.1 x.2.1) awy
def awC(y:(List (List UInt8))×(List (List UInt8))×Int×Bool){R:Type}(k:KT R):R:=match y with|a0=>kk k (Ex.exit 4) acd ((a0.1,(a0.2.1,(a0.2.2.1,(a0.2.2.2,())))),())
def awD:List (cq K ((List (List UInt8))×(List (List UInt8))×Int×Bool)):=[⟨(Ex.exit 4),acd,fun x=>(x.1.1,x.1.2.1,x.1.2.2.1,x.1.2.2.2.1)⟩]
def afW:bo K:=bB D false 55 0 [1,5,7,8,9] [1,5,7,8] ace (fun x=>M.wm x.1.1 x.1.2.1 x.1.2.2.1 af x.1.2.2.2.1 x.1.2.2.2.2.1) awC
def awE(y:Bool⊕Unit){R:Type}(k:KT R):R:=match y with|.inl a0=>kk k Ex.ret zs0 ((a0,()),())|.inr a1=>kk k (Ex.exit 2) zs2 (((),()),())
def awF:List (cq K ((Bool)⊕Unit)):=[⟨Ex.ret,zs0,fun x=>.inl x.1.1⟩,⟨(Ex.exit 2),zs2,fun x=>.inr (())⟩]
def afX:bo K:=bB D false 55 0 [1,5,7] [4] IT (fun x=>M.py af x.1.1 x.1.2.1 x.1.2.2.1) awE
def afY(m:M.ay->(List (List UInt8))->Option Bool):ax K:=cB 150 ⟨[.el U.fO,.ah U.str],[]⟩ (fun x=>m x.1.1 x.1.2.1)
def tG:Cx K:=aQ [(202,.cT)] [tD M.zf] [(3,afV),(11,afW),(7,afX)]
theorem JX:aJ tG:=aL aB _ (ae awx ak)
theorem awG:bn tG (bc (bc (bm Tryz.f150) 1) 0) afW:=lk (cx:=tG) (sh:=ace) (run:=fun n x=>M.wm x.1.1 x.1.2.1 x.1.2.2.1 n x.1.2.2.2.1 x.1.2.2.2.2.1) (bu:=awD) JX (fun m x=>by kernel_rfl) (ae ⟨bD,fun _ _ _=>rfl⟩ ak)
theorem awH:bn tG (bc (bm Tryz.f150) 0) afV:=lk (cx:=tG) (sh:=acb) (run:=fun n x=>M.wk x.1.1 n x.1.2.2.1 x.1.2.2.2.1 x.2.1) (bu:=awz) JX (fun m x=>by kernel_rfl) (ae ⟨bD,fun _ _ _=>rfl⟩ ak)
theorem awI:bn tG (bc (bm Tryz.f150) 1) afX:=lk (cx:=tG) (sh:=IT) (run:=fun n x=>M.py n x.1.1 x.1.2.1 x.1.2.2.1) (bu:=awF) JX (fun m x=>by kernel_rfl) (ae ⟨cn,fun _ _ _=>rfl⟩ (ae ⟨bD,fun _ _ _=>rfl⟩ ak)) (hl:=(kd 1 (by kernel_rfl) (kQ (.mk (by kernel_rfl) awG))))
theorem awJ:aj (afY (M.Ek)):=aH (cx:=tG) true JX Tryz.func150 (hl2 awH awI) ⟨zs0,fun x=>x.1.1⟩ (fun x=>by kernel_rfl)
def UG(y:Bool⊕Unit){R:Type}(k:KT R):R:=match y with|.inl a0=>kk k Ex.ret IN ((a0,()),((),()))|.inr a1=>kk k (Ex.exit 2) yd (((),()),((),()))
def UJ:List (cq K ((Bool)⊕Unit)):=[⟨Ex.ret,IN,fun x=>.inl x.1.1⟩,⟨(Ex.exit 2),yd,fun x=>.inr (())⟩]
def afZ:bo K:=bB D false 122 1 [1,4] [2] IW (fun x=>M.pz x.2.1 af x.1.2.1) UG
def af0(m:M.ar->Option Bool):ax K:=cB 107 yP (fun x=>m x.1.1)
def zg:Cx K:=aQ [(66,.plain),(67,.plain),(149,.plain),(150,.plain)] [yk M.jE,M3 M.vl,afO M.Ei,afY M.Ek] [(4,afL),(9,afZ)]
theorem Oh:aJ zg:=aL aB _ (ae BJ (ae Wa (ae awo (ae awJ ak))))
theorem awK:bn zg (bc (bm Tryz.f107) 0) afL:=lk (cx:=zg) (sh:=IW) (run:=fun n x=>M.pv x.2.1 n x.1.2.1) (bu:=awj) Oh (fun m x=>by kernel_rfl) (ae ⟨cn,fun _ _ _=>rfl⟩ (ae ⟨bD,fun _ _ _=>rfl⟩ ak))
theorem awL:bn zg (bc (bm Tryz.f107) 1) afZ:=lk (cx:=zg) (sh:=IW) (run:=fun n x=>M.pz x.2.1 n x.1.2.1) (bu:=UJ) Oh (fun m x=>by kernel_rfl) (ae ⟨cn,fun _ _ _=>rfl⟩ (ae ⟨bD,fun _ _ _=>rfl⟩ ak))
theorem awM:aj (af0 (M.Em)):=aH (cx:=zg) true Oh Tryz.func107 (hl2 awK awL) ⟨zs0,fun x=>x.1.1⟩ (fun x=>by kernel_rfl)
def BI(m:M.ar->Option ((List UInt8))):ax K:=cS 108 yP (fun x=>m x.1.1)
theorem Hg:aj (BI (M.jr)):=aH (cx:=di) true dk Tryz.func108 hq ⟨dO,fun x=>x.1.1⟩ (fun x=>by kernel_rfl)
def af1:bo K:=bB D false 25 1 [1,3] [2] IX (fun x=>M.pA af x.1.2.1 x.2.1) rP
def af2(m:M.ay->Option Bool):ax K:=cB 109 lL (fun x=>m x.1.1)
def JY:Cx K:=aQ [(151,.plain)] [pj M.jH] [(4,af1)]
theorem af4:aJ JY:=aL aB _ (ae N6 ak)
theorem awN:bn JY (bc (bm Tryz.f109) 0) af1:=lk (cx:=JY) (sh:=IX) (run:=fun n x=>M.pA n x.1.2.1 x.2.1) (bu:=rQ) af4 (fun m x=>by kernel_rfl) (ae ⟨cn,fun _ _ _=>rfl⟩ (ae ⟨bD,fun _ _ _=>rfl⟩ ak))
theorem awO:aj (af2 (M.En)):=aH (cx:=JY) true af4 Tryz.func109 (hl1 awN) ⟨zs0,fun x=>x.1.1⟩ (fun x=>by kernel_rfl)
def awP(y:Bool⊕((List M.ar)×Int)){R:Type}(k:KT R):R:=match y with|.inl a0=>kk k Ex.ret yh (((),((),(a0,()))),())|.inr a1=>kk k (Ex.exit 2) ⟨[.ah U.aT,iq0,.any],[]⟩ ((a1.1,(a1.2,((),()))),())
def awQ:List (cq K ((Bool)⊕((List M.ar)×Int))):=[⟨Ex.ret,yh,fun x=>.inl x.1.2.2.1⟩,⟨(Ex.exit 2),⟨[.ah U.aT,iq0,.any],[]⟩,fun x=>.inr ((x.1.1,x.1.2.1))⟩]
def af5:bo K:=bB D false 59 0 [0,3,4] [0,3,2] IV (fun x=>M.tH x.1.1 x.1.2.1 af x.1.2.2.1) awP
def af6:bo K:=bB D false 59 0 [0,3] [2] NN (fun x=>M.pB af x.1.1 x.1.2.1) iU
def V9(m:(List M.ar)->Option Bool):ax K:=cB 68 B9 (fun x=>m x.1.1)
def zh:Cx K:=aQ [(107,.plain),(108,.plain),(109,.plain)] [af0 M.Em,BI M.jr,af2 M.En] [(9,af5),(4,af6)]
theorem Oi:aJ zh:=aL aB _ (ae awM (ae Hg (ae awO ak)))
theorem awR:bn zh (bc (bc (bm Tryz.f68) 0) 0) af5:=lk (cx:=zh) (sh:=IV) (run:=fun n x=>M.tH x.1.1 x.1.2.1 n x.1.2.2.1) (bu:=awQ) Oi (fun m x=>by kernel_rfl) (ae ⟨cn,fun _ _ _=>rfl⟩ (ae ⟨bD,fun _ _ _=>rfl⟩ ak))
theorem awS:bn zh (bc (bm Tryz.f68) 0) af6:=lk (cx:=zh) (sh:=NN) (run:=fun n x=>M.pB n x.1.1 x.1.2.1) (bu:=iT) Oi (fun m x=>by kernel_rfl) (ae ⟨cn,fun _ _ _=>rfl⟩ (ae ⟨bD,fun _ _ _=>rfl⟩ ak)) (hl:=(kd 1 (by kernel_rfl) (kQ (.mk (by kernel_rfl) awR))))
theorem aoK:aj (V9 (M.yl)):=aH (cx:=zh) true Oi Tryz.func68 (hl1 awS) ⟨zs0,fun x=>x.1.1⟩ (fun x=>by kernel_rfl)
def awT(y:(Int×Bool)⊕Int){R:Type}(k:KT R):R:=match y with|.inl a0=>kk k Ex.ret ⟨[.any,iq0,.bool],[]⟩ (((),(a0.1,(a0.2,()))),())|.inr a1=>kk k (Ex.exit 0) ⟨[iq0,.any,.any],[]⟩ ((a1,((),((),()))),())
def awU:List (cq K ((Int×Bool)⊕Int)):=[⟨Ex.ret,⟨[.any,iq0,.bool],[]⟩,fun x=>.inl (x.1.2.1,x.1.2.2.1)⟩,⟨(Ex.exit 0),⟨[iq0,.any,.any],[]⟩,fun x=>.inr (x.1.1)⟩]
def af7:bo K:=bB D false 39 0 [5,15,16,17] [5,2,3] acf (fun x=>M.qD x.1.2.1 x.1.2.2.1 af x.1.1 x.1.2.2.2.1) awT
def af8(m:(List UInt8)->Option (Int×Bool)):ax K:={f:=125,sh:=dO,R:=Int×Bool,run:=fun x=>m x.1.1,dflt:=default,out:=fun r=>(Sh.enc D (.bU [iq0,.bool]) (r.1,(r.2,())),bh.encs D [] ())}
def JZ:Cx K:=aQ [(163,.cT),(164,.plain),(87,.plain)] [Oj M.strings_Split,Ol M.qE,ma M.mb] [(6,af7)]
theorem af9:aJ JZ:=aL aB _ (ae awV (ae awW (ae mP ak)))
theorem awX:bn JZ (bc (bm Tryz.f125) 0) af7:=lk (cx:=JZ) (sh:=acf) (run:=fun n x=>M.qD x.1.2.1 x.1.2.2.1 n x.1.1 x.1.2.2.2.1) (bu:=awU) af9 (fun m x=>by kernel_rfl) (ae ⟨cn,fun _ _ _=>rfl⟩ (ae ⟨bD,fun _ _ _=>rfl⟩ ak))
theorem awY:aj (af8 (M.Eo)):=aH (cx:=JZ) true af9 Tryz.func125 (hl1 awX) ⟨BG,fun x=>(x.1.1.1,x.1.1.2.1)⟩ (fun x=>by kernel_rfl)
def Nq(m:(List UInt8)->Option Bool):ax K:=cB 83 dO (fun x=>m x.1.1)
def aga:Cx K:=aQ [(125,.plain)] [af8 M.Eo] []
theorem awZ:aJ aga:=aL aB _ (ae awY ak)
theorem YL:aj (Nq (M.vu)):=aH (cx:=aga) true awZ Tryz.func83 hq ⟨zs0,fun x=>x.1.1⟩ (fun x=>by kernel_rfl)
def agb:bo K:=bB D false 20 0 [0,3] [2] Dk (fun x=>M.tI x.1.1 af x.1.2.1) iU
def Om(m:(List (List UInt8))->Option Bool):ax K:=cB 130 iu (fun x=>m x.1.1)
def J0:Cx K:=aQ [] [] [(2,agb)]
theorem agc:aJ J0:=aL aB _ ak
theorem aw0:bn J0 (bc (bm Tryz.f130) 0) agb:=lk (cx:=J0) (sh:=Dk) (run:=fun n x=>M.tI x.1.1 n x.1.2.1) (bu:=iT) agc (fun m x=>by kernel_rfl) (ae ⟨cn,fun _ _ _=>rfl⟩ (ae ⟨bD,fun _ _ _=>rfl⟩ ak))
theorem agd:aj (Om (M.tJ)):=aH (cx:=J0) true agc Tryz.func130 (hl1 aw0) ⟨zs0,fun x=>x.1.1⟩ (fun x=>by kernel_rfl)
def age(m:(List UInt8)->Option Bool):ax K:=cB 166 dO (fun x=>m x.1.1)
theorem aw1:aj (age (M.Ep)):=aH (cx:=N9) true aeQ Tryz.func166 hq ⟨zs0,fun x=>x.1.1⟩ (fun x=>by kernel_rfl)
def agf:bo K:=bB D false 19 0 [0,1,7,8] [4] acg (fun x=>M.wo x.1.1 x.1.2.2.1 af x.1.2.2.2.1) iW
def agh(m:(List (List UInt8))->Option Int):ax K:=cI 211 ⟨[.ah U.str,.fn 166 []],[]⟩ (fun x=>m x.1.1)
def J1:Cx K:=aQ [(166,.plain)] [age M.Ep] [(2,agf)]
theorem agi:aJ J1:=aL aB _ (ae aw1 ak)
theorem aw2:bn J1 (bc (bm Tryz.f211) 0) agf:=lk (cx:=J1) (sh:=acg) (run:=fun n x=>M.wo x.1.1 x.1.2.2.1 n x.1.2.2.2.1) (bu:=iY) agi (fun m x=>by kernel_rfl) (ae ⟨cn,fun _ _ _=>rfl⟩ (ae ⟨bD,fun _ _ _=>rfl⟩ ak))
theorem aw3:aj (agh (M.J2)):=aH (cx:=J1) true agi Tryz.func211 (hl1 aw2) ⟨zs1,fun x=>x.1.1⟩ (fun x=>by kernel_rfl)
def agj(m:(List (List UInt8))->Option Bool):ax K:=cB 165 ⟨[.ah U.str,.fn 166 []],[]⟩ (fun x=>m x.1.1)
def agk:Cx K:=aQ [(211,.plain)] [agh M.J2] []
theorem aw4:aJ agk:=aL aB _ (ae aw3 ak)
theorem aw5:aj (agj (M.Es)):=aH (cx:=agk) true aw4 Tryz.func165 hq ⟨zs0,fun x=>x.1.1⟩ (fun x=>by kernel_rfl)
def On(m:M.aa->Option Bool):ax K:=cB 213 gV (fun x=>m x.1.1)
def agl:Cx K:=aQ [(255,.plain),(256,.plain),(257,.plain)] [tl M.Jw,tq M.JA,kZ M.JO] []
theorem aw6:aJ agl:=aL aB _ (ae ave (ae avh (ae avR ak)))
theorem agm:aj (On (M.wq)):=aH (cx:=agl) true aw6 Tryz.func213 hq ⟨zs0,fun x=>x.1.1⟩ (fun x=>by kernel_rfl)
def aw7(y:Bool⊕((List M.aw)×(List (List UInt8)))){R:Type}(k:KT R):R:=match y with|.inl a0=>kk k Ex.ret yR (((),((),(a0,()))),((),((),())))|.inr a1=>kk k (Ex.exit 0) ach ((a1.1,((),((),()))),((),(a1.2,())))
def aw8:List (cq K ((Bool)⊕((List M.aw)×(List (List UInt8))))):=[⟨Ex.ret,yR,fun x=>.inl x.1.2.2.1⟩,⟨(Ex.exit 0),ach,fun x=>.inr ((x.1.1,x.2.2.1))⟩]
def agn:bo K:=bB D false 41 1 [0,3,7,8,9] [0,3,2] aci (fun x=>M.tK x.1.1 x.1.2.2.1 x.1.2.2.2.1 af x.1.2.2.2.2.1 x.2.2.1) aw7
def agp(m:(List M.aw)->Option Bool):ax K:=cB 212 ⟨[.ah U.Param],[]⟩ (fun x=>m x.1.1)
def J3:Cx K:=aQ [(82,.plain),(213,.plain),(140,.plain),(137,.plain)] [yx M.jF,On M.wq,yu M.yv,ym M.kS] [(3,agn)]
theorem agq:aJ J3:=aL aB _ (ae Ce (ae agm (ae Cd (ae HG ak))))
theorem aw9:bn J3 (bc (bm Tryz.f212) 0) agn:=lk (cx:=J3) (sh:=aci) (run:=fun n x=>M.tK x.1.1 x.1.2.2.1 x.1.2.2.2.1 n x.1.2.2.2.2.1 x.2.2.1) (bu:=aw8) agq (fun m x=>by kernel_rfl) (ae ⟨cn,fun _ _ _=>rfl⟩ (ae ⟨bD,fun _ _ _=>rfl⟩ ak))
theorem axa:aj (agp (M.Et)):=aH (cx:=J3) true agq Tryz.func212 (hl1 aw9) ⟨zs0,fun x=>x.1.1⟩ (fun x=>by kernel_rfl)
def agr(m:M.ay->Option Bool):ax K:=cB 167 lL (fun x=>m x.1.1)
def ags:Cx K:=aQ [(212,.plain),(213,.plain),(175,.plain)] [agp M.Et,On M.wq,jI M.kf] []
theorem axb:aJ ags:=aL aB _ (ae axa (ae agm (ae Oe ak)))
theorem axc:aj (agr (M.Eu)):=aH (cx:=ags) true axb Tryz.func167 hq ⟨zs0,fun x=>x.1.1⟩ (fun x=>by kernel_rfl)
def tL(m:M.aa->Option ((List (List UInt8)))):ax K:={f:=214,sh:=gV,R:=(List (List UInt8)),run:=fun x=>m x.1.1,dflt:=default,out:=fun r=>(Sh.enc D (.own 0) (),bh.encs D [.arr U.str] (r,()))}
def NF(y:(List (List UInt8))){R:Type}(k:KT R):R:=match y with|a0=>kk k (Ex.exit 0) Ir (((),()),((),(a0,())))
def NH:List (cq K ((List (List UInt8)))):=[⟨(Ex.exit 0),Ir,fun x=>x.2.2.1⟩]
def agt(fC:M.aa->Option ((List (List UInt8)))):bo K:=bB D false 33 1 [3,21,22,23] [3] acj (fun x=>M.qF fC x.1.2.1 x.1.2.2.1 af x.1.2.2.2.1 x.2.2.1) NF
def J4(fC:M.aa->Option ((List (List UInt8)))):Cx K:={js with mode:=ir .plain [(214,.fresh)],mN:=[[some U.str]],call:=callOf D [tL fC],loop:=gu [(5,agt fC)]}
theorem agu(fC:M.aa->Option ((List (List UInt8))))(zi:aj (tL fC)):aJ (J4 fC):=aL aB _ (ae zi ak)
theorem axd(fC:M.aa->Option ((List (List UInt8))))(zi:aj (tL fC)):bn (J4 fC) (bc (bm Tryz.f214) 0) (agt fC):=lk (cx:=J4 fC) (sh:=acj) (run:=fun n x=>M.qF fC x.1.2.1 x.1.2.2.1 n x.1.2.2.2.1 x.2.2.1) (bu:=NH) (agu fC zi) (fun m x=>by kernel_rfl) (ae ⟨bD,fun _ _ _=>rfl⟩ ak)
theorem axe(fC:M.aa->Option ((List (List UInt8))))(zi:aj (tL fC)):aj (tL (M.J5 fC)):=eR (cx:=J4 fC) (fz:=false) aB (agu fC zi) cG ⟨Tryz.func214,by kernel_rfl⟩ (hl1 (axd fC zi)) ⟨⟨[.own 0],[.arr U.str]⟩,fun x=>x.2.1⟩ (fun x=>rfl) (fun x=>by kernel_rfl)
theorem agv:∀n,aj (tL (M.qG n))|0=>ia fun _=>rfl|n+1=>axe (M.qG n) (agv n)
theorem axf:aj (tL (M.zj)):=agv af
def agw:bo K:=bB D false 23 1 [3,10,11,12] [3] ack (fun x=>M.wu x.1.2.1 x.1.2.2.1 af x.1.2.2.2.1 x.2.2.1) NF
def agx(m:M.ay->Option ((List (List UInt8)))):ax K:={f:=168,sh:=lL,R:=(List (List UInt8)),run:=fun x=>m x.1.1,dflt:=default,out:=fun r=>(Sh.enc D (.ah U.str) r,bh.encs D [] ())}
def J6:Cx K:=aQ [(214,.fresh)] [tL M.zj] [(3,agw)]
theorem agy:aJ J6:=aL aB _ (ae axf ak)
theorem axg:bn J6 (bc (bm Tryz.f168) 0) agw:=lk (cx:=J6) (sh:=ack) (run:=fun n x=>M.wu x.1.2.1 x.1.2.2.1 n x.1.2.2.2.1 x.2.2.1) (bu:=NH) agy (fun m x=>by kernel_rfl) (ae ⟨bD,fun _ _ _=>rfl⟩ ak)
theorem axh:aj (agx (M.Ew)):=aH (cx:=J6) true agy Tryz.func168 (hl1 axg) ⟨iu,fun x=>x.1.1⟩ (fun x=>by kernel_rfl)
def agz:bo K:=bB D false 19 0 [0,1,7,8] [4] acm (fun x=>M.wv x.1.1 x.1.2.1 x.1.2.2.1 af x.1.2.2.2.1) iW
def agA(m:(List (List UInt8))->(List UInt8)->Option Int):ax K:=cI 215 NP (fun x=>m x.1.1 x.1.2.1)
def J7:Cx K:=aQ [] [] [(2,agz)]
theorem agB:aJ J7:=aL aB _ ak
theorem axi:bn J7 (bc (bm Tryz.f215) 0) agz:=lk (cx:=J7) (sh:=acm) (run:=fun n x=>M.wv x.1.1 x.1.2.1 x.1.2.2.1 n x.1.2.2.2.1) (bu:=iY) agB (fun m x=>by kernel_rfl) (ae ⟨cn,fun _ _ _=>rfl⟩ (ae ⟨bD,fun _ _ _=>rfl⟩ ak))
theorem axj:aj (agA (M.J8)):=aH (cx:=J7) true agB Tryz.func215 (hl1 axi) ⟨zs1,fun x=>x.1.1⟩ (fun x=>by kernel_rfl)
def Nn(m:(List (List UInt8))->(List UInt8)->Option Bool):ax K:=cB 170 NP (fun x=>m x.1.1 x.1.2.1)
def agC:Cx K:=aQ [(215,.plain)] [agA M.J8] []
theorem axk:aJ agC:=aL aB _ (ae axj ak)
theorem Yw:aj (Nn (M.rJ)):=aH (cx:=agC) true axk Tryz.func170 hq ⟨zs0,fun x=>x.1.1⟩ (fun x=>by kernel_rfl)
def agD(m:(List UInt8)->M.ar->Option Bool):ax K:=cB 169 ⟨[.str,.rp U.aT 0],[]⟩ (fun x=>m x.1.1 x.1.2.1)
def agE:Cx K:=aQ [(170,.plain)] [Nn M.rJ] []
theorem axl:aJ agE:=aL aB _ (ae Yw ak)
theorem axm:aj (agD (M.Ey)):=aH (cx:=agE) true axl Tryz.func169 hq ⟨zs0,fun x=>x.1.1⟩ (fun x=>by kernel_rfl)
def agF:bo K:=bB D false 19 0 [0,1,7,8] [4] acn (fun x=>M.wx x.1.1 x.1.2.1.1 x.1.2.2.1 af x.1.2.2.2.1) iW
def agG(m:(List (List UInt8))->M.ar->Option Int):ax K:=cI 211 aco (fun x=>m x.1.1 x.1.2.1.1)
def J9:Cx K:=aQ [(169,.plain)] [agD M.Ey] [(2,agF)]
theorem agH:aJ J9:=aL aB _ (ae axm ak)
theorem axn:bn J9 (bc (bm Tryz.f211) 0) agF:=lk (cx:=J9) (sh:=acn) (run:=fun n x=>M.wx x.1.1 x.1.2.1.1 x.1.2.2.1 n x.1.2.2.2.1) (bu:=iY) agH (fun m x=>by kernel_rfl) (ae ⟨cn,fun _ _ _=>rfl⟩ (ae ⟨bD,fun _ _ _=>rfl⟩ ak))
theorem axo:aj (agG (M.Ko)):=aH (cx:=J9) true agH Tryz.func211 (hl1 axn) ⟨zs1,fun x=>x.1.1⟩ (fun x=>by kernel_rfl)
def agI(m:(List (List UInt8))->M.ar->Option Bool):ax K:=cB 165 aco (fun x=>m x.1.1 x.1.2.1.1)
def agJ:Cx K:=aQ [(211,.plain)] [agG M.Ko] []
theorem axp:aJ agJ:=aL aB _ (ae axo ak)
theorem axq:aj (agI (M.Ez)):=aH (cx:=agJ) true axp Tryz.func165 hq ⟨zs0,fun x=>x.1.1⟩ (fun x=>by kernel_rfl)
def axr(y:Bool⊕((List (List UInt8)))){R:Type}(k:KT R):R:=match y with|.inl a0=>kk k Ex.ret ⟨[.any,.bool],[.dead,.dead,.dead]⟩ (((),(a0,())),((),((),((),()))))|.inr a1=>kk k (Ex.exit 0) acp (((),((),())),((),((),(a1,()))))
def axs:List (cq K ((Bool)⊕((List (List UInt8))))):=[⟨Ex.ret,⟨[.any,.bool],[.dead,.dead,.dead]⟩,fun x=>.inl x.1.2.1⟩,⟨(Ex.exit 0),acp,fun x=>.inr (x.2.2.2.1)⟩]
def agK:bo K:=bB D false 74 2 [1,3,45,46,47] [3,2] acr (fun x=>M.tM x.1.2.2.1 x.1.2.2.2.1 x.2.1 af x.1.2.2.2.2.1 x.2.2.2.1) axr
def agL(m:M.ar->Option Bool):ax K:=cB 126 yP (fun x=>m x.1.1)
def Kp:Cx K:=aQ [(82,.plain),(83,.plain),(130,.plain),(165,.plain),(167,.plain),(168,.cT)] [yx M.jF,Nq M.vu,Om M.tJ,agj M.Es,agr M.Eu,agx M.Ew,agI M.Ez] [(7,agK)]
theorem agM:aJ Kp:=aL aB _ (ae Ce (ae YL (ae agd (ae aw5 (ae axc (ae axh (ae axq ak)))))))
theorem axt:bn Kp (bc (bm Tryz.f126) 0) agK:=lk (cx:=Kp) (sh:=acr) (run:=fun n x=>M.tM x.1.2.2.1 x.1.2.2.2.1 x.2.1 n x.1.2.2.2.2.1 x.2.2.2.1) (bu:=axs) agM (fun m x=>by kernel_rfl) (ae ⟨cn,fun _ _ _=>rfl⟩ (ae ⟨bD,fun _ _ _=>rfl⟩ ak))
theorem axu:aj (agL (M.EA)):=aH (cx:=Kp) true agM Tryz.func126 (hl1 axt) ⟨zs0,fun x=>x.1.1⟩ (fun x=>by kernel_rfl)
def aak(y:(List M.aa)){R:Type}(k:KT R):R:=match y with|a0=>kk k (Ex.exit 0) abu (((),()),((),(a0,())))
def aan:List (cq K ((List M.aa))):=[⟨(Ex.exit 0),abu,fun x=>x.2.2.1⟩]
def agN:bo K:=bB D false 21 1 [3,8,9,10] [3] acs (fun x=>M.mX x.1.2.1 x.1.2.2.1 af x.1.2.2.2.1 x.2.2.1) aak
def Nj(m:M.ay->Option ((List M.aa))):ax K:={f:=173,sh:=lL,R:=(List M.aa),run:=fun x=>m x.1.1,dflt:=default,out:=fun r=>(Sh.enc D (.own 0) (),bh.encs D [.arr U.Type] (r,()))}
def Kq:Cx K:={js with mode:=ir .plain [],mN:=[[some U.Type]],call:=callOf D [],loop:=gu [(3,agN)]}
theorem agO:aJ Kq:=aL aB _ ak
theorem axv:bn Kq (bc (bm Tryz.f173) 0) agN:=lk (cx:=Kq) (sh:=acs) (run:=fun n x=>M.mX x.1.2.1 x.1.2.2.1 n x.1.2.2.2.1 x.2.2.1) (bu:=aan) agO (fun m x=>by kernel_rfl) (ae ⟨bD,fun _ _ _=>rfl⟩ ak)
theorem X6:aj (Nj (M.qo)):=aH (cx:=Kq) false agO Tryz.func173 (hl1 axv) ⟨⟨[.own 0],[.arr U.Type]⟩,fun x=>x.2.1⟩ (fun x=>by kernel_rfl)
def agP(m:M.aa->Option Bool):ax K:=cB 174 gV (fun x=>m x.1.1)
def agQ:Cx K:=aQ [(175,.plain)] [jI M.kf] []
theorem axw:aJ agQ:=aL aB _ (ae Oe ak)
theorem axx:aj (agP (M.EB)):=aH (cx:=agQ) true axw Tryz.func174 hq ⟨zs0,fun x=>x.1.1⟩ (fun x=>by kernel_rfl)
def agR:bo K:=bB D false 19 0 [0,1,7,8] [4] acu (fun x=>M.wy x.1.1 x.1.2.2.1 af x.1.2.2.2.1) iW
def agS(m:(List M.aa)->Option Int):ax K:=cI 216 ⟨[.ah U.Type,.fn 174 []],[]⟩ (fun x=>m x.1.1)
def Kr:Cx K:=aQ [(174,.plain)] [agP M.EB] [(2,agR)]
theorem agT:aJ Kr:=aL aB _ (ae axx ak)
theorem axy:bn Kr (bc (bm Tryz.f216) 0) agR:=lk (cx:=Kr) (sh:=acu) (run:=fun n x=>M.wy x.1.1 x.1.2.2.1 n x.1.2.2.2.1) (bu:=iY) agT (fun m x=>by kernel_rfl) (ae ⟨cn,fun _ _ _=>rfl⟩ (ae ⟨bD,fun _ _ _=>rfl⟩ ak))
theorem axz:aj (agS (M.Ks)):=aH (cx:=Kr) true agT Tryz.func216 (hl1 axy) ⟨zs1,fun x=>x.1.1⟩ (fun x=>by kernel_rfl)
def agU(m:(List M.aa)->Option Bool):ax K:=cB 172 ⟨[.ah U.Type,.fn 174 []],[]⟩ (fun x=>m x.1.1)
def agV:Cx K:=aQ [(216,.plain)] [agS M.Ks] []
theorem axA:aJ agV:=aL aB _ (ae axz ak)
theorem axB:aj (agU (M.EC)):=aH (cx:=agV) true axA Tryz.func172 hq ⟨zs0,fun x=>x.1.1⟩ (fun x=>by kernel_rfl)
def agW(m:M.ay->Option Bool):ax K:=cB 129 lL (fun x=>m x.1.1)
def agX:Cx K:=aQ [(173,.fresh),(172,.plain)] [Nj M.qo,agU M.EC] []
theorem axC:aJ agX:=aL aB _ (ae X6 (ae axB ak))
theorem axD:aj (agW (M.ED)):=aH (cx:=agX) true axC Tryz.func129 hq ⟨zs0,fun x=>x.1.1⟩ (fun x=>by kernel_rfl)
def agY(m:M.aF->Option Bool):ax K:=cB 128 ⟨[.el U.Func],[]⟩ (fun x=>m x.1.1)
def agZ:Cx K:=aQ [(129,.plain)] [agW M.ED] []
theorem axE:aJ agZ:=aL aB _ (ae axD ak)
theorem axF:aj (agY (M.EE)):=aH (cx:=agZ) true axE Tryz.func128 hq ⟨zs0,fun x=>x.1.1⟩ (fun x=>by kernel_rfl)
def ag0:bo K:=bB D false 19 0 [0,1,7,8] [4] acv (fun x=>M.wA x.1.1 x.1.2.2.1 af x.1.2.2.2.1) iW
def ag1(m:(List M.aF)->Option Int):ax K:=cI 171 ⟨[.ah U.Func,.fn 128 []],[]⟩ (fun x=>m x.1.1)
def Kt:Cx K:=aQ [(128,.plain)] [agY M.EE] [(2,ag0)]
theorem ag2:aJ Kt:=aL aB _ (ae axF ak)
theorem axG:bn Kt (bc (bm Tryz.f171) 0) ag0:=lk (cx:=Kt) (sh:=acv) (run:=fun n x=>M.wA x.1.1 x.1.2.2.1 n x.1.2.2.2.1) (bu:=iY) ag2 (fun m x=>by kernel_rfl) (ae ⟨cn,fun _ _ _=>rfl⟩ (ae ⟨bD,fun _ _ _=>rfl⟩ ak))
theorem axH:aj (ag1 (M.Ku)):=aH (cx:=Kt) true ag2 Tryz.func171 (hl1 axG) ⟨zs1,fun x=>x.1.1⟩ (fun x=>by kernel_rfl)
def ag3(m:(List M.aF)->Option Bool):ax K:=cB 127 ⟨[.ah U.Func,.fn 128 []],[]⟩ (fun x=>m x.1.1)
def ag4:Cx K:=aQ [(171,.plain)] [ag1 M.Ku] []
theorem axI:aJ ag4:=aL aB _ (ae axH ak)
theorem axJ:aj (ag3 (M.EF)):=aH (cx:=ag4) true axI Tryz.func127 hq ⟨zs0,fun x=>x.1.1⟩ (fun x=>by kernel_rfl)
def Cb(m:M.ar->Option ((List UInt8))):ax K:=cS 93 yP (fun x=>m x.1.1)
theorem HK:aj (Cb (M.kO)):=aH (cx:=di) true dk Tryz.func93 hq ⟨dO,fun x=>x.1.1⟩ (fun x=>by kernel_rfl)
def axK(y:Bool⊕((List M.ar)×(List (List UInt8)))){R:Type}(k:KT R):R:=match y with|.inl a0=>kk k Ex.ret yR (((),((),(a0,()))),((),((),())))|.inr a1=>kk k (Ex.exit 0) acw ((a1.1,((),((),()))),((),(a1.2,())))
def axL:List (cq K ((Bool)⊕((List M.ar)×(List (List UInt8))))):=[⟨Ex.ret,yR,fun x=>.inl x.1.2.2.1⟩,⟨(Ex.exit 0),acw,fun x=>.inr ((x.1.1,x.2.2.1))⟩]
def ag5:bo K:=bB D false 34 1 [0,3,7,8,9] [0,3,2] acx (fun x=>M.wB x.1.1 x.1.2.2.1 x.1.2.2.2.1 af x.1.2.2.2.2.1 x.2.2.1) axK
def YK(m:(List M.ar)->Option Bool):ax K:=cB 84 B9 (fun x=>m x.1.1)
def Kv:Cx K:=aQ [(126,.plain),(127,.plain),(93,.plain),(130,.plain)] [agL M.EA,ag3 M.EF,Cb M.kO,Om M.tJ] [(3,ag5)]
theorem ag6:aJ Kv:=aL aB _ (ae axu (ae axJ (ae HK (ae agd ak))))
theorem axM:bn Kv (bc (bm Tryz.f84) 0) ag5:=lk (cx:=Kv) (sh:=acx) (run:=fun n x=>M.wB x.1.1 x.1.2.2.1 x.1.2.2.2.1 n x.1.2.2.2.2.1 x.2.2.1) (bu:=axL) ag6 (fun m x=>by kernel_rfl) (ae ⟨cn,fun _ _ _=>rfl⟩ (ae ⟨bD,fun _ _ _=>rfl⟩ ak))
theorem aqp:aj (YK (M.yy)):=aH (cx:=Kv) true ag6 Tryz.func84 (hl1 axM) ⟨zs0,fun x=>x.1.1⟩ (fun x=>by kernel_rfl)
def ag7(m:M.aw->M.aw->Option Bool):ax K:=cB 275 ⟨[.el U.Param,.el U.Param],[]⟩ (fun x=>m x.1.1 x.1.2.1)
def ag8:Cx K:=aQ [(236,.plain)] [mW M.yV] []
theorem axN:aJ ag8:=aL aB _ (ae aed ak)
theorem axO:aj (ag7 (M.EG)):=aH (cx:=ag8) true axN Tryz.func275 hq ⟨zs0,fun x=>x.1.1⟩ (fun x=>by kernel_rfl)
def ag9:bo K:=bB D false 27 0 [0,1,5] [4] acy (fun x=>M.wC x.1.1 x.1.2.1 af x.1.2.2.1) iU
def aha(m:(List M.aw)->(List M.aw)->Option Bool):ax K:=cB 235 ⟨[.ah U.Param,.ah U.Param],[]⟩ (fun x=>m x.1.1 x.1.2.1)
def Kw:Cx K:=aQ [(275,.plain)] [ag7 M.EG] [(4,ag9)]
theorem ahb:aJ Kw:=aL aB _ (ae axO ak)
theorem axP:bn Kw (bc (bm Tryz.f235) 0) ag9:=lk (cx:=Kw) (sh:=acy) (run:=fun n x=>M.wC x.1.1 x.1.2.1 n x.1.2.2.1) (bu:=iT) ahb (fun m x=>by kernel_rfl) (ae ⟨cn,fun _ _ _=>rfl⟩ (ae ⟨bD,fun _ _ _=>rfl⟩ ak))
theorem axQ:aj (aha (M.EH)):=aH (cx:=Kw) true ahb Tryz.func235 (hl1 axP) ⟨zs0,fun x=>x.1.1⟩ (fun x=>by kernel_rfl)
def ahc(m:M.ay->M.ay->Option Bool):ax K:=cB 197 ⟨[.el U.fO,.el U.fO],[]⟩ (fun x=>m x.1.1 x.1.2.1)
def ahd:Cx K:=aQ [(235,.plain),(236,.plain)] [aha M.EH,mW M.yV] []
theorem axR:aJ ahd:=aL aB _ (ae axQ (ae aed ak))
theorem axS:aj (ahc (M.EI)):=aH (cx:=ahd) true axR Tryz.func197 hq ⟨zs0,fun x=>x.1.1⟩ (fun x=>by kernel_rfl)
def ahe(m:M.aF->M.aF->Option Bool):ax K:=cB 145 ⟨[.el U.Func,.el U.Func],[]⟩ (fun x=>m x.1.1 x.1.2.1)
def ahf:Cx K:=aQ [(197,.plain)] [ahc M.EI] []
theorem axT:aJ ahf:=aL aB _ (ae axS ak)
theorem ani:aj (ahe (M.EJ)):=aH (cx:=ahf) true axT Tryz.func145 hq ⟨zs0,fun x=>x.1.1⟩ (fun x=>by kernel_rfl)
def TV:bo K:=bB D false 27 0 [0,1,5] [4] TW (fun x=>M.u0 x.1.1 x.1.2.1 af x.1.2.2.1) iU
def TX(m:(List M.aF)->(List M.aF)->Option Bool):ax K:=cB 101 ⟨[.ah U.Func,.ah U.Func],[]⟩ (fun x=>m x.1.1 x.1.2.1)
def Gu:Cx K:=aQ [(145,.plain)] [ahe M.EJ] [(4,TV)]
