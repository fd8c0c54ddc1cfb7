/-
  Part of the proof of the claim.
-/
import Derived.Test.YtnkkcmdomlkdmaaGreatDoorXEFM
import Derived.Test.YtnkkcmdomlkdmaaGreatDoorXEHdA
import Derived.Test.YtnkkcmdomlkdmaaGreatDoorXEHd4
import Derived.Test.YtnkkcmdomlkdmaaGreatDoorXEHdV
import Derived.Test.YtnkkcmdomlkdmaaGreatDoorXEHdB
import Derived.Test.YtnkkcmdomlkdmaaGreatDoorXEHdO
import Derived.Test.YtnkkcmdomlkdmaaGreatDoorXWgD
import Derived.Test.YtnkkcmdomlkdmaaGreatDoorProg
set_option linter.unusedVariables false
set_option maxRecDepth 100000
open Go Go.Proofs
open Go.V
noncomputable section
abbrev iq0:Go.V.Sh Go.V.K:=.int .i64
abbrev iq2:=Go.V.aM Go.V.K
abbrev zs0:iq2:=⟨[.bool],[]⟩
abbrev zs1:iq2:=⟨[iq0],[]⟩
abbrev zs2:iq2:=⟨[.any],[]⟩
abbrev cH:iq2:=⟨[.str],[]⟩
abbrev yP:iq2:=⟨[.any],[.dead]⟩
abbrev iF:iq2:=⟨[.any,iq0],[]⟩
abbrev zs6:iq2:=⟨[iq0,.any],[]⟩
abbrev zs7:iq2:=⟨[.el U.Type],[]⟩
abbrev JE:iq2:=⟨[.bool],[.dead]⟩
abbrev zs9:iq2:=⟨[.ptr 0 0],[.box [.np 0,.own 2],.dead,.arr U.u8]⟩
abbrev pF:iq2:=⟨[iq0,.own 1],[.dead,.arr U.u8]⟩
abbrev ly:iq2:=⟨[.el U.Module],[]⟩
abbrev ma:iq2:=⟨[.ah U.Type],[]⟩
abbrev mF:iq2:=⟨[.own 1],[.dead,.arr U.i64]⟩
abbrev HM:iq2:=⟨[.el U.eM],[]⟩
abbrev pD:iq2:=⟨[.ah U.str],[]⟩
abbrev pB:iq2:=⟨[.el U.iS],[]⟩
abbrev aag:iq2:=⟨[.any,.bool],[]⟩
abbrev qM:iq2:=⟨[.own 1],[.dead,.arr U.u8]⟩
abbrev HJ:iq2:=⟨[.el U.Ins],[]⟩
abbrev sM:iq2:=⟨[.ah U.i64],[]⟩
abbrev yT:iq2:=⟨[.any,.any,.bool],[]⟩
abbrev sQ:iq2:=⟨[.el U.aS],[]⟩
abbrev sR:iq2:=⟨[.rp U.eM 0,iq0,iq0,iq0],[]⟩
abbrev wc:iq2:=⟨[.rp U.eM 0,iq0,iq0],[]⟩
abbrev adg:iq2:=⟨[.ah U.aS],[]⟩
abbrev yL:iq2:=⟨[.ah U.eM],[]⟩
abbrev zp:iq2:=⟨[.str,.any],[]⟩
abbrev zb:iq2:=⟨[.el U.Core],[]⟩
abbrev adh:iq2:=⟨[.any,.bool],[.dead]⟩
abbrev yM:iq2:=⟨[.any,.any,.bool],[.dead,.dead]⟩
abbrev Jm:iq2:=⟨[.own 1],[.dead,.arr U.str]⟩
abbrev zo:iq2:=⟨[.ptr 0 0,iq0],[.el U.Module]⟩
abbrev CO:iq2:=⟨[.ptr 0 0,.str,.str,.str],[.el U.Module]⟩
abbrev DR:iq2:=⟨[.ptr 0 0,.own 2,iq0],[.el U.eM,.dead,.arr U.u8]⟩
abbrev C3:iq2:=⟨[.bQ [iq0,iq0]],[]⟩
abbrev C4:iq2:=⟨[.ah U.Ins],[]⟩
abbrev Jk:iq2:=⟨[.ah U.str,iq0],[]⟩
abbrev JF:iq2:=⟨[.bQ [iq0,.bool]],[]⟩
abbrev adi:iq2:=⟨[.el U.Func],[]⟩
abbrev adk:iq2:=⟨[.rp U.eM 0],[]⟩
abbrev JG:iq2:=⟨[.str,iq0],[]⟩
abbrev JH:iq2:=⟨[.any,.any,.any,.own 5,iq0,iq0],[.dead,.dead,.dead,.dead,.dead,.arr U.CodeBlock]⟩
abbrev JI:iq2:=⟨[.ptr 0 0,.own 3,.own 4,.any,.any,.any],[.el U.Core,.dead,.dead,.arr U.CodeBlock,.arr U.i64]⟩
abbrev JJ:iq2:=⟨[.ah U.str,iq0,iq0],[]⟩
abbrev Ih:iq2:=⟨[.el U.Type,iq0],[]⟩
abbrev JK:iq2:=⟨[.ah U.str,.ah U.str,iq0],[]⟩
abbrev JL:iq2:=⟨[iq0,iq0],[]⟩
abbrev JM:iq2:=⟨[.ptr 0 0,iq0],[.el U.Type]⟩
abbrev IU:iq2:=⟨[.str,iq0,iq0],[]⟩
abbrev VK:iq2:=⟨[.ah U.aS,iq0,iq0],[]⟩
abbrev VL:iq2:=⟨[.ptr 0 0,iq0],[.el U.aS]⟩
abbrev VW:iq2:=⟨[.ptr 0 0,iq0],[.el U.iS]⟩
abbrev Hz:iq2:=⟨[.ah U.Param],[]⟩
abbrev HA:iq2:=⟨[.own 1],[.dead,.arr U.Type]⟩
abbrev HQ:iq2:=⟨[iq0,iq0,iq0],[.dead]⟩
abbrev WJ:iq2:=⟨[.any,.any,.any],[.dead]⟩
abbrev WL:iq2:=⟨[iq0],[.dead]⟩
abbrev WQ:iq2:=⟨[.str,.ptr 0 0,iq0],[.el U.Module]⟩
abbrev H7:iq2:=⟨[.el U.Module,.str],[]⟩
abbrev Iw:iq2:=⟨[.ah U.Type,.own 1,iq0],[.dead,.arr U.i64]⟩
abbrev IN:iq2:=⟨[.any,.any,.any,.bool],[]⟩
abbrev Jh:iq2:=⟨[.rp U.eM 0,iq0,iq0,.any],[]⟩
abbrev Jn:iq2:=⟨[.rp U.eM 0,iq0,.any],[]⟩
abbrev Jw:iq2:=⟨[.rp U.eM 0,iq0],[]⟩
abbrev O9:iq2:=⟨[.own 1,.ah U.Type,iq0,iq0],[.dead,.arr U.i64]⟩
abbrev Pe:iq2:=⟨[.ptr 0 0,.own 2],[.el U.eM,.dead,.arr U.str]⟩
abbrev Ol:iq2:=⟨[.own 2],[.dead,.dead,.arr U.u8]⟩
abbrev Pg:iq2:=⟨[.any,.str],[.dead,.dead]⟩
abbrev Ph:iq2:=⟨[.own 1,.any],[.dead,.arr U.u8]⟩
abbrev Oi:iq2:=⟨[.ah U.jQ],[]⟩
abbrev OT:iq2:=⟨[.ptr 0 0,.own 2],[.el U.eM,.dead,.arr U.u8]⟩
abbrev Pj:iq2:=⟨[.el U.Module,iq0],[]⟩
abbrev Pl:iq2:=⟨[.bQ [iq0,iq0,.bool]],[]⟩
abbrev N8:iq2:=⟨[.own 0],[.arr U.i64]⟩
abbrev Og:iq2:=⟨[.ah U.Import],[]⟩
abbrev adl:iq2:=⟨[.rp U.checker 0,.el U.Ins],[]⟩
abbrev adm:iq2:=⟨[.ah U.Type,iq0],[]⟩
abbrev adn:iq2:=⟨[.ah U.aS,iq0],[]⟩
abbrev ado:iq2:=⟨[.ah U.str,.str],[]⟩
abbrev adp:iq2:=⟨[.bQ [iq0,iq0,iq0]],[]⟩
abbrev adq:iq2:=⟨[.ah U.Builtin],[]⟩
abbrev adr:iq2:=⟨[.el U.Builtin],[]⟩
abbrev ads:iq2:=⟨[.ah U.Import,iq0,iq0],[]⟩
abbrev adt:iq2:=⟨[.ah U.Core,iq0,iq0],[]⟩
abbrev adu:iq2:=⟨[.ptr 0 0,.own 3,.own 4,iq0],[.el U.Core,.dead,.dead,.arr U.CodeBlock,.arr U.i64]⟩
abbrev adv:iq2:=⟨[.rp U.mI 0,iq0,iq0],[]⟩
abbrev adw:iq2:=⟨[.any,.any,.any,.dt,.own 6,iq0,iq0],[.dead,.dead,.dead,.dead,.dead,.dead,.arr U.hQ,.dead,.dead]⟩
abbrev adx:iq2:=⟨[.ptr 0 0,.ptr 1 0,.own 5,.any,.any,.any,.any],[.el U.Core,.box [iq0,.ah U.Import,.ah U.Core,.str,iq0,iq0,.bool,.ah U.Ins,.own 6,.own 7,iq0,.bool],.dead,.dead,.dead,.arr U.hQ,.arr U.CodeBlock,.arr U.i64]⟩
abbrev ady:iq2:=⟨[.ptr 0 0,.ptr 1 0,.own 5,iq0],[.el U.Core,.box [iq0,.ah U.Import,.ah U.Core,.str,iq0,iq0,.bool,.ah U.Ins,.own 6,.own 7,iq0,.bool],.dead,.dead,.dead,.arr U.hQ,.arr U.CodeBlock,.arr U.i64]⟩
abbrev adz:iq2:=⟨[.ptr 0 0,.own 3,.own 4,.ah U.Ins,iq0,iq0],[.el U.Core,.dead,.dead,.arr U.CodeBlock,.arr U.i64]⟩
abbrev adA:iq2:=⟨[.ptr 0 0,.el U.Ins],[.box [iq0,.ah U.Import,.ah U.Core,.str,iq0,iq0,.bool,.ah U.Ins,.ah U.CodeBlock,iq0,.own 1,.own 2,iq0,.bool],.arr U.i64,.arr U.i64]⟩
abbrev adB:iq2:=⟨[iq0],[.box [iq0,.ah U.Import,.ah U.Core,.str,iq0,iq0,.bool,.ah U.Ins,.ah U.CodeBlock,iq0,.own 3,.own 4,iq0,.bool],.dead,.dead,.arr U.i64,.arr U.i64]⟩
abbrev adC:iq2:=⟨[.any,.any,.any,.any,.own 6,.own 7,iq0,iq0],[.dead,.dead,.dead,.dead,.dead,.dead,.tree U.hQ,.arr U.CodeBlock,.dead,.dead]⟩
abbrev adD:iq2:=⟨[.ptr 0 0,.ah U.CodeBlock,.ptr 1 0,.own 5,.any,.any,.any,.any],[.el U.Core,.box [iq0,.ah U.Import,.ah U.Core,.str,iq0,iq0,.bool,.ah U.Ins,.ah U.CodeBlock,iq0,.own 6,.own 7,iq0,.bool],.dead,.dead,.dead,.tree U.hQ,.arr U.i64,.arr U.i64]⟩
abbrev adE:iq2:=⟨[.ptr 0 0,.ah U.CodeBlock,.ptr 1 0,.own 5,.ah U.Ins,iq0,iq0],[.el U.Core,.box [iq0,.ah U.Import,.ah U.Core,.str,iq0,iq0,.bool,.ah U.Ins,.ah U.CodeBlock,iq0,.own 6,.own 7,iq0,.bool],.dead,.dead,.dead,.tree U.hQ,.arr U.i64,.arr U.i64]⟩
abbrev adF:iq2:=⟨[.ah U.Import,.ah U.Import,iq0],[]⟩
abbrev adG:iq2:=⟨[.ah U.Ins,.ah U.Ins,iq0],[]⟩
abbrev adH:iq2:=⟨[.ah U.Core,.ah U.Core,iq0],[]⟩
abbrev adI:iq2:=⟨[.ah U.Type,iq0,iq0],[]⟩
abbrev adJ:iq2:=⟨[.ah U.Type,.ah U.Type,iq0],[]⟩
abbrev adK:iq2:=⟨[.any,.any,iq0,iq0],[.dead]⟩
abbrev adL:iq2:=⟨[iq0,iq0,.any,.any],[.dead]⟩
abbrev adM:iq2:=⟨[iq0,.ptr 0 0,iq0,iq0,iq0],[.el U.Type]⟩
abbrev adN:iq2:=⟨[iq0,iq0,.ptr 0 0,iq0],[.el U.Type]⟩
abbrev adO:iq2:=⟨[iq0,iq0,.ah U.Type,iq0,iq0],[]⟩
abbrev adP:iq2:=⟨[iq0,.ah U.Type,iq0,iq0],[]⟩
abbrev adQ:iq2:=⟨[.ah U.Type,.fn 338 [],iq0,iq0],[]⟩
abbrev adR:iq2:=⟨[.ah U.str,.fn 378 [],iq0,iq0],[]⟩
abbrev adS:iq2:=⟨[.ah U.Type,.fn 217 [],iq0,iq0],[]⟩
abbrev adT:iq2:=⟨[.ah U.i64,iq0,iq0,iq0],[]⟩
abbrev adU:iq2:=⟨[.ah U.Type,.fn 262 [.rp U.nA 0],iq0,iq0],[]⟩
abbrev adV:iq2:=⟨[.ah U.Type,.fn 262 [.rp U.nA 0]],[]⟩
abbrev adW:iq2:=⟨[.ah U.Param,iq0,iq0],[]⟩
abbrev adX:iq2:=⟨[.ah U.Func,iq0,iq0],[]⟩
abbrev adY:iq2:=⟨[.any,.any,.any,.any,iq0],[]⟩
abbrev adZ:iq2:=⟨[.str,iq0,iq0,iq0,.any],[]⟩
abbrev ad1:iq2:=⟨[.str,iq0,iq0,iq0,iq0],[]⟩
abbrev ad2:iq2:=⟨[.ptr 0 0,iq0,.any],[.el U.iS,.dead]⟩
abbrev ad3:iq2:=⟨[.ptr 0 0,iq0,.ptr 1 0,iq0],[.el U.iS,.el U.Param]⟩
abbrev ad4:iq2:=⟨[.str,.own 1,.bool],[.dead,.arr U.str]⟩
abbrev ad5:iq2:=⟨[.ah U.str,.str,.own 1,.bool,iq0],[.dead,.arr U.str]⟩
abbrev ad6:iq2:=⟨[.ah U.str,.ptr 0 0,iq0],[.el U.Type]⟩
abbrev ad7:iq2:=⟨[.ah U.str,.ptr 0 0,.ah U.str,iq0],[.el U.iS]⟩
abbrev ad8:iq2:=⟨[.ah U.str,.ah U.str,iq0,.bool],[]⟩
abbrev ad9:iq2:=⟨[.ah U.str,.ah U.str,iq0,.bool,iq0],[]⟩
abbrev aea:iq2:=⟨[iq0,.ah U.str,iq0,iq0],[]⟩
abbrev aeb:iq2:=⟨[.ah U.str,.fn 202 [],iq0,iq0],[]⟩
abbrev aec:iq2:=⟨[.ah U.Param,.own 1,.any],[.dead,.arr U.str]⟩
abbrev aed:iq2:=⟨[.ah U.Param,.own 1,.ah U.Param,iq0,iq0],[.dead,.arr U.str]⟩
abbrev aee:iq2:=⟨[.own 1,.ah U.Type,iq0,iq0],[.dead,.arr U.str]⟩
abbrev aef:iq2:=⟨[.own 1,.ah U.Param,iq0,iq0],[.dead,.arr U.str]⟩
abbrev aeg:iq2:=⟨[.ah U.str,.str,iq0,iq0],[]⟩
abbrev aeh:iq2:=⟨[.ah U.str,.fn 205 [.rp U.aS 0],iq0,iq0],[]⟩
abbrev aei:iq2:=⟨[.ah U.str,.fn 205 [.rp U.aS 0]],[]⟩
abbrev aej:iq2:=⟨[.own 2,.any],[.dead,.dead,.arr U.str]⟩
abbrev aek:iq2:=⟨[.ptr 0 0,.own 2,.ah U.Func,iq0,iq0],[.el U.aS,.dead,.arr U.str]⟩
abbrev ael:iq2:=⟨[.own 1,.ah U.Param,iq0,iq0],[.dead,.arr U.Type]⟩
abbrev aem:iq2:=⟨[.ah U.Type,.fn 210 [],iq0,iq0],[]⟩
abbrev aen:iq2:=⟨[.ah U.Func,.fn 150 [],iq0,iq0],[]⟩
abbrev aeo:iq2:=⟨[.ah U.aS,.own 1,.any],[.dead,.arr U.str]⟩
abbrev aep:iq2:=⟨[.ah U.aS,.own 1,.ah U.aS,iq0,iq0],[.dead,.arr U.str]⟩
abbrev aeq:iq2:=⟨[.ah U.Param,.ah U.Param,iq0],[]⟩
abbrev aer:iq2:=⟨[.ah U.Func,.ah U.Func,iq0],[]⟩
abbrev Vi:iq2:=⟨[.ah U.aS,.ah U.aS,iq0],[]⟩
abbrev Vn:iq2:=⟨[.ah U.dK,iq0,iq0],[]⟩
abbrev Vs:iq2:=⟨[.ah U.Lower,iq0,iq0],[]⟩
abbrev V1:iq2:=⟨[.ah U.Builtin,iq0,iq0],[]⟩
abbrev V3:iq2:=⟨[.ptr 1 0,.ptr 2 0],[.dead,.box [iq0,.str,.own 7,.own 8],.box [iq0,.str,.own 9,.own 10],.dead,.dead,.dead,.dead,.arr U.str,.arr U.Type,.arr U.str,.arr U.Type]⟩
abbrev V7:iq2:=⟨[.ptr 0 0,.ptr 1 0,.ptr 2 0,iq0],[.el U.Type,.box [iq0,.str,.own 7,.own 8],.box [iq0,.str,.own 9,.own 10],.dead,.dead,.dead,.dead,.arr U.str,.arr U.Type,.arr U.str,.arr U.Type]⟩
abbrev Wl:iq2:=⟨[.ptr 0 0,.own 2,iq0],[.el U.iS,.dead,.arr U.Type]⟩
abbrev W7:iq2:=⟨[.ah U.i64,.ah U.i64,.own 1,iq0],[.dead,.arr U.i64]⟩
abbrev Xu:iq2:=⟨[.ah U.aS,.str,iq0,iq0],[]⟩
abbrev XF:iq2:=⟨[.ah U.Ins,.fn 227 [],iq0,iq0],[]⟩
abbrev XK:iq2:=⟨[.ah U.dK,.ah U.dK,iq0],[]⟩
abbrev XP:iq2:=⟨[.ah U.Lower,.ah U.Lower,iq0],[]⟩
abbrev XW:iq2:=⟨[.ah U.Builtin,.ah U.Builtin,iq0],[]⟩
abbrev XX:iq2:=⟨[.el U.eM,.el U.eM],[]⟩
abbrev XZ:iq2:=⟨[.any,.any,.any,.bool],[.dead,.dead,.dead,.dead,.dead]⟩
abbrev X0:iq2:=⟨[.ptr 0 0,.own 3,.own 4,.any],[.el U.Module,.dead,.dead,.arr U.str,.arr U.str]⟩
abbrev X1:iq2:=⟨[.ptr 0 0,.own 3,.own 4,.ah U.Import,iq0,iq0],[.el U.Module,.dead,.dead,.arr U.str,.arr U.str]⟩
abbrev X3:iq2:=⟨[.any,.any,.bool],[.dead,.dead,.dead,.dead]⟩
abbrev Yf:iq2:=⟨[.own 2,.own 3,.any],[.dead,.dead,.arr U.str,.arr U.str]⟩
abbrev Yn:iq2:=⟨[.own 2,.own 3,.ah U.Core,iq0,iq0],[.dead,.dead,.arr U.str,.arr U.str]⟩
abbrev Yv:iq2:=⟨[.ah U.str,.fn 229 [],iq0,iq0],[]⟩
abbrev Yx:iq2:=⟨[.ptr 0 0,iq0,iq0],[.el U.Module]⟩
abbrev Yz:iq2:=⟨[.own 2,.ah U.aS,iq0,iq0],[.dead,.dead,.arr U.bound]⟩
abbrev YE:iq2:=⟨[.own 2,.ptr 1 0,.ah U.aS,iq0,iq0,.ah U.Func,iq0,iq0],[.dead,.el U.aS,.arr U.bound]⟩
abbrev YL:iq2:=⟨[.own 1,.ah U.aS,iq0,iq0],[.dead,.arr U.bound]⟩
abbrev Y4:iq2:=⟨[.ah U.Core,.fn 214 [.rp U.str 0],iq0,iq0],[]⟩
abbrev Za:iq2:=⟨[.ah U.i64,.ah U.i64,.own 1,iq0,iq0],[.dead,.arr U.i64]⟩
abbrev Zg:iq2:=⟨[.ptr 0 0,.ah U.bound,.ah U.dK,iq0,iq0],[.el U.eM]⟩
abbrev Zj:iq2:=⟨[.ah U.Import,.fn 219 [.rp U.str 0],iq0,iq0],[]⟩
abbrev Zk:iq2:=⟨[.ptr 0 0,.ah U.bound,.ah U.Lower,iq0,iq0],[.el U.eM]⟩
abbrev Zm:iq2:=⟨[.ptr 0 0,.bool],[.el U.aS,.dead,.dead]⟩
abbrev Zt:iq2:=⟨[.ptr 0 0,.any],[.box [.str,.str,.str,.own 3,.own 4],.dead,.dead,.arr U.str,.arr U.Func]⟩
abbrev Zx:iq2:=⟨[.str,.ptr 0 0,.ah U.aS,iq0,iq0],[.box [.str,.str,.str,.own 3,.own 4],.dead,.dead,.arr U.str,.arr U.Func]⟩
abbrev Zz:iq2:=⟨[.ptr 0 0,.ah U.Builtin,iq0,iq0],[.el U.eM]⟩
abbrev ZI:iq2:=⟨[.ptr 0 0,.own 2,.ah U.Lower,iq0,iq0],[.el U.eM,.dead,.arr U.str]⟩
abbrev ZM:iq2:=⟨[.ptr 0 0,.own 2,.ah U.Builtin,iq0,iq0],[.el U.eM,.dead,.arr U.str]⟩
abbrev ZV:iq2:=⟨[iq0,.own 1,iq0,iq0],[.dead,.arr U.u8]⟩
abbrev Z3:iq2:=⟨[.fn 167 [],.ptr 0 0,.ah U.Type,iq0,iq0],[.box [.np 0,.own 2],.dead,.arr U.u8]⟩
abbrev Z9:iq2:=⟨[.fn 42 [],.ptr 0 0,.ah U.str,iq0,iq0],[.box [.np 0,.own 2],.dead,.arr U.u8]⟩
abbrev aai:iq2:=⟨[.str,.ah U.Type,iq0,iq0],[]⟩
abbrev aaq:iq2:=⟨[iq0,iq0,.own 1,iq0],[.dead,.arr U.u8]⟩
abbrev aau:iq2:=⟨[.ah U.str,.own 1,iq0],[.dead,.arr U.u8]⟩
abbrev aay:iq2:=⟨[.ptr 0 0,.str,iq0],[.el U.Type]⟩
abbrev aaD:iq2:=⟨[.fn 166 [],.ptr 0 0,.ah U.Param,iq0,iq0],[.box [.np 0,.own 2],.dead,.arr U.u8]⟩
abbrev aaJ:iq2:=⟨[.fn 117 [],.ptr 0 0,.ah U.Func,iq0,iq0],[.box [.np 0,.own 2],.dead,.arr U.u8]⟩
abbrev aaN:iq2:=⟨[.ptr 0 0,.str,iq0],[.el U.Func]⟩
abbrev aaX:iq2:=⟨[.ptr 0 0,.own 2,iq0],[.el U.aS,.dead,.arr U.u8]⟩
abbrev aa3:iq2:=⟨[.ptr 0 0,.str,iq0],[.el U.Module]⟩
abbrev aba:iq2:=⟨[.ah U.Ins,.own 1,iq0],[.dead,.arr U.u8]⟩
abbrev abf:iq2:=⟨[.ptr 0 0,.str,.str,.str,iq0],[.el U.Module]⟩
abbrev abm:iq2:=⟨[.ptr 0 0,.str,.str,.str,.ah U.Import,iq0,iq0],[.el U.Module]⟩
abbrev abw:iq2:=⟨[.ah U.Ins,.fn 232 [],iq0,iq0],[]⟩
abbrev abC:iq2:=⟨[.ptr 0 0,.ah U.Ins,iq0,iq0],[.box [.np 0,.own 2],.dead,.arr U.u8]⟩
abbrev abG:iq2:=⟨[.ptr 0 0,.str,.str,.str,.ah U.Core,iq0,iq0],[.el U.Module]⟩
abbrev abJ:iq2:=⟨[.ptr 0 0,.any],[.box [.np 0,.own 2],.dead,.arr U.u8]⟩
abbrev abU:iq2:=⟨[.ptr 0 0,.ah U.jQ,iq0,iq0],[.box [.np 0,.own 2],.dead,.arr U.u8]⟩
abbrev abY:iq2:=⟨[.ah U.jQ,.own 1,iq0],[.dead,.arr U.u8]⟩
abbrev ab5:iq2:=⟨[.ah U.aS,.own 1,iq0],[.dead,.arr U.u8]⟩
abbrev ab7:iq2:=⟨[.fn 60 [],.ptr 0 0,.ah U.dK,iq0,iq0],[.box [.np 0,.own 2],.dead,.arr U.u8]⟩
abbrev acj:iq2:=⟨[.fn 62 [],.ptr 0 0,.ah U.Lower,iq0,iq0],[.box [.np 0,.own 2],.dead,.arr U.u8]⟩
abbrev acr:iq2:=⟨[.fn 65 [],.ptr 0 0,.ah U.aS,iq0,iq0],[.box [.np 0,.own 2],.dead,.arr U.u8]⟩
abbrev acH:iq2:=⟨[.fn 68 [],.ptr 0 0,.ah U.Builtin,iq0,iq0],[.box [.np 0,.own 2],.dead,.arr U.u8]⟩
abbrev acO:iq2:=⟨[.ah U.eM,iq0,iq0],[]⟩
abbrev acU:iq2:=⟨[.ah U.eM,.own 1,iq0],[.dead,.arr U.u8]⟩
abbrev ac2:iq2:=⟨[.ah U.eM,.ah U.eM,iq0,iq0],[]⟩
abbrev aGs:iq2:=⟨[.fn 41 [],.ptr 0 0,.ah U.eM,iq0,iq0],[.box [.np 0,.own 2],.dead,.arr U.u8]⟩
abbrev aGt:iq2:=⟨[.ah U.eM,.ah U.eM,iq0],[]⟩
abbrev aGu:iq2:=⟨[.ah U.str,.own 1,iq0],[.dead,.arr U.str]⟩
abbrev aGv:iq2:=⟨[.ah U.Type,.own 1,iq0],[.dead,.arr U.Type]⟩
abbrev aGx:iq2:=⟨[.ah U.Param,.own 1,iq0],[.dead,.arr U.Param]⟩
abbrev aGB:iq2:=⟨[.ah U.Func,.own 1,iq0],[.dead,.arr U.Func]⟩
abbrev aGI:iq2:=⟨[.ah U.aS,.own 1,iq0],[.dead,.arr U.aS]⟩
abbrev aGU:iq2:=⟨[.ah U.Import,.own 1,iq0],[.dead,.arr U.Import]⟩
abbrev aG1:iq2:=⟨[.ah U.Ins,.own 1,iq0],[.dead,.arr U.Ins]⟩
abbrev aG7:iq2:=⟨[.ah U.Core,.own 1,iq0],[.dead,.arr U.Core]⟩
abbrev aHd:iq2:=⟨[.ah U.dK,.own 1,iq0],[.dead,.arr U.dK]⟩
abbrev aHe:iq2:=⟨[.ah U.Lower,.own 1,iq0],[.dead,.arr U.Lower]⟩
abbrev aHf:iq2:=⟨[.ah U.Builtin,.own 1,iq0],[.dead,.arr U.Builtin]⟩
abbrev aHg:iq2:=⟨[.ah U.eM,.own 1,iq0],[.dead,.arr U.eM]⟩
def Pm:Go.TypeId->Option U:=dI [(2,U.i64),(3,U.i64),(4,U.bool),(5,U.u8),(6,U.u8),(9,U.str),(10,U.str),(11,U.str),(12,U.u64),(21,U.i32),(22,U.ti),(23,U.tj),(24,U.aao),(26,U.Module),(27,U.tn),(28,U.tp),(29,U.tq),(31,U.eM),(34,U.ti),(35,U.tj),(36,U.aao),(38,U.Module),(39,U.tn),(40,U.tp),(41,U.tq),(43,U.eM),(47,U.tu),(50,U.tu),(71,U.wh),(76,U.wi),(77,U.tw),(79,U.aS),(84,U.dK),(87,U.Lower),(90,U.Builtin),(95,U.dK),(96,U.Lower),(97,U.Builtin),(98,U.tw),(100,U.aS),(121,U.u64),(140,U.Import),(142,U.tz),(144,U.Core),(150,U.wj),(154,U.Import),(156,U.tz),(158,U.Core),(166,U.tA),(167,U.tC),(169,U.Type),(171,U.iS),(173,U.Func),(182,U.tA),(183,U.tC),(185,U.Type),(187,U.iS),(189,U.Func),(200,U.jQ),(211,U.anc),(215,U.bound),(222,U.Param),(239,U.nA),(247,U.Ins),(251,U.Ins),(280,U.wm),(297,U.wo),(311,U.Param),(318,U.mI),(320,U.hQ),(335,U.checker),(344,U.nA),(346,U.CodeBlock),(357,U.i64),(358,U.u64),(368,U.i64),(376,U.u32),(389,U.u64),(418,U.u8),(419,U.u8),(421,U.i32),(422,U.i32)]
def avD:Go.TypeId->List (Option U):=dO [] [(22,[some U.aS]),(23,[some U.Import]),(24,[some U.Core]),(26,[none,some U.Import,some U.Core]),(27,[some U.dK]),(28,[some U.Lower]),(29,[some U.Builtin]),(31,[none,none,some U.aS,some U.aS,none,none,none,some U.Import,some U.Core,some U.dK,some U.Lower,some U.Builtin]),(34,[some U.aS]),(35,[some U.Import]),(36,[some U.Core]),(38,[none,some U.Import,some U.Core]),(39,[some U.dK]),(40,[some U.Lower]),(41,[some U.Builtin]),(43,[none,none,some U.aS,some U.aS,none,none,none,some U.Import,some U.Core,some U.dK,some U.Lower,some U.Builtin]),(47,[some U.eM]),(50,[some U.eM]),(71,[some U.u8]),(76,[some U.str]),(77,[some U.Func]),(79,[none,none,none,some U.str,some U.Func]),(98,[some U.Func]),(100,[none,none,none,some U.str,some U.Func]),(129,[none,some U.u8]),(142,[some U.Ins]),(144,[none,none,none,none,some U.Ins]),(150,[some U.jQ]),(156,[some U.Ins]),(158,[none,none,none,none,some U.Ins]),(166,[some U.Param]),(167,[some U.Type]),(169,[none,none,some U.str,some U.Type]),(171,[some U.Param,none,none,some U.str,some U.Type,none]),(173,[none,some U.Param,none,none,some U.str,some U.Type,none]),(182,[some U.Param]),(183,[some U.Type]),(185,[none,none,some U.str,some U.Type]),(187,[some U.Param,none,none,some U.str,some U.Type,none]),(189,[none,some U.Param,none,none,some U.str,some U.Type,none]),(211,[some U.bound]),(215,[none,none,some U.Param,none,none,some U.str,some U.Type,none]),(222,[none,none,none,some U.str,some U.Type]),(239,[some U.i64]),(280,[some U.hQ]),(297,[some U.CodeBlock]),(311,[none,none,none,some U.str,some U.Type]),(318,[none,some U.Import,some U.Core,none,none,none,none,some U.Ins,some U.CodeBlock,some U.i64,none,none]),(320,[none,none,some U.i64]),(335,[none,some U.Import,some U.Core,none,none,none,none,some U.Ins,some U.CodeBlock,none,some U.i64,some U.i64,none,none]),(344,[some U.i64])]
theorem cM:Tryz.prog.follows .mixedOrders=true:=by kernel_rfl
abbrev ai(c:an K):Prop:=c.Ok D Tryz.prog
abbrev KT(R:Type):=Ex->List (AV K)->List (Ob K)->R
def kk{R:Type}(k:KT R)(e:Ex)(s:aM K)(v:s.T):R:=k e (aM.lG D s v) (aM.jv D s v)
def cB(f:FuncId)(sh:aM K)(run:sh.T->Option Bool):an K:={f:=f,sh:=sh,R:=Bool,run:=run,dflt:=default,out:=fun r=>(Sh.enc D (.bool) r,bk.encs D [] ())}
def cI(f:FuncId)(sh:aM K)(run:sh.T->Option Int):an K:={f:=f,sh:=sh,R:=Int,run:=run,dflt:=default,out:=fun r=>(Sh.enc D (.int .i64) r,bk.encs D [] ())}
def cS(f:FuncId)(sh:aM K)(run:sh.T->Option (List UInt8)):an K:={f:=f,sh:=sh,R:=List UInt8,run:=run,dflt:=default,out:=fun r=>(Sh.enc D (.str) r,bk.encs D [] ())}
def tl:Cx K:={P:=Tryz.prog,D:=D,ty:=Pm,nB:=avD,mode:=dO .plain [],call:=callOf D [],loop:=dI []}
def aP(m:List (FuncId×Go.V.Mode))(c:List (an K))(l:List (Nat×bf K)):Cx K:={tl with mode:=dO .plain m,call:=callOf D c,loop:=dI l}
theorem hq{cx:Cx K}{fn:Func}(h:(jw (aY fn)).length=0:=by kernel_rfl):∀c,fn.body=some c->iu cx c:=Jz (eN h)
theorem hl1{cx:Cx K}{fn:Func}{L:bf K}(o:bg cx (aW (aY fn) 0) L)(h:(jw (aY fn)).length=1:=by kernel_rfl)(k:cx.loop (keyOf (aW (aY fn) 0))=some L:=by kernel_rfl):∀c,fn.body=some c->iu cx c:=Jz (mG 1 h (ns (.mk k o)))
theorem hl2{cx:Cx K}{fn:Func}{L M:bf K}(o:bg cx (aW (aY fn) 0) L)(p:bg cx (aW (aY fn) 1) M)(h:(jw (aY fn)).length=2:=by kernel_rfl)(k:cx.loop (keyOf (aW (aY fn) 0))=some L:=by kernel_rfl)(l:cx.loop (keyOf (aW (aY fn) 1))=some M:=by kernel_rfl):∀c,fn.body=some c->iu cx c:=Jz (mG 2 h (lt_succ (ns (.mk k o)) (.mk l p)))
theorem lk{cx:Cx K}{c:Code}{n n0:Nat}{ins outs:List Nat}{sh:aM K}{Y:Type}{run:Nat->sh.T->Option Y}{bh:List (cC K Y)}{out:Y->{R:Type}->(Ex->List (AV K)->List (Ob K)->R)->R}(hc:aI cx)(hs:∀m x,fQ cx c (wq cx.D n ins sh x) (Pn cx n n0 ins outs sh (run m) (zq cx.D bh))=run (m+1) x)(hx:∀d∈bh,d.e≠.normal/\∀x (R:Type) (k:Ex->List (AV K)->List (Ob K)->R),out (d.conv x) k=k d.e (d.sh.lG cx.D x) (d.sh.jv cx.D x))(hl:iu cx c:=by exact eN (by kernel_rfl))(hD:bT cx.D:=by exact ay)(hm:cx.P.follows .mixedOrders=true:=by exact cM)(h0:∀x,run 0 x=none:=by exact fun _=>rfl):bg cx c (bm cx.D false n n0 ins outs sh (run af) out):=eU hD hc hm hl h0 hs hx false af
theorem aG{cx:Cx K}(fz:Bool)(hc:aI cx){c:an K}{fn:Func}(hg:cx.P.funcs[c.f]?=some fn)(hl:∀b,fn.body=some b->iu cx b)(d:DT K cx.D c.R)(he:∀x,JO cx fz fn (c.sh.lG cx.D x) (c.sh.jv cx.D x) d.fin=c.run x)(hD:bT cx.D:=by exact ay)(hm:cx.P.follows .mixedOrders=true:=by exact cM)(hn:(fn.name== "runtime.NumGoroutine")=false:=by kernel_rfl)(ho:∀x,([(c.out (d.conv x)).1],(c.out (d.conv x)).2)=(d.sh.lG cx.D x,d.sh.jv cx.D x):=by exact fun x=>rfl):c.Ok cx.D cx.P:=fq hD hc hm ⟨hg,hn⟩ hl d ho he
def aes(m:M.aO->Int->Option Int):an K:=cI 84 ⟨[.el U.Import,iq0],[]⟩ (fun x=>m x.1.1 x.1.2.1)
def dy:Cx K:=aP [] [] []
theorem dA:aI dy:=aL ay _ ak
theorem avE:ai (aes (M.DU)):=aG (cx:=dy) true dA Tryz.func84 hq ⟨zs1,fun x=>x.1.1⟩ (fun x=>by kernel_rfl)
def pK(y:Int⊕Int){R:Type}(k:KT R):R:=match y with|.inl a0=>kk k Ex.ret iF (((),(a0,())),())|.inr a1=>kk k (Ex.exit 0) zs6 ((a1,((),())),())
def pL:List (cC K ((Int)⊕Int)):=[⟨Ex.ret,iF,fun x=>.inl x.1.2.1⟩,⟨(Ex.exit 0),zs6,fun x=>.inr (x.1.1)⟩]
def aet:bf K:=bm D false 27 0 [0,1,5] [1,4] ads (fun x=>M.wu x.1.1 af x.1.2.1 x.1.2.2.1) pK
def aeu(m:(List M.aO)->Int->Option Int):an K:=cI 44 ⟨[.ah U.Import,iq0],[]⟩ (fun x=>m x.1.1 x.1.2.1)
def JP:Cx K:=aP [(84,.plain)] [aes M.DU] [(5,aet)]
theorem aev:aI JP:=aL ay _ (ae avE ak)
theorem avF:bg JP (aW (aY Tryz.f44) 0) aet:=lk (cx:=JP) (sh:=ads) (run:=fun n x=>M.wu x.1.1 n x.1.2.1 x.1.2.2.1) (bh:=pL) aev (fun m x=>by kernel_rfl) (ae ⟨bX,fun _ _ _=>rfl⟩ (ae ⟨bp,fun _ _ _=>rfl⟩ ak))
theorem avG:ai (aeu (M.DV)):=aG (cx:=JP) true aev Tryz.func44 (hl1 avF) ⟨zs1,fun x=>x.1.1⟩ (fun x=>by kernel_rfl)
def aew(m:(List M.aE)->Int->Option Int):an K:=cI 130 ⟨[.ah U.Ins,iq0],[]⟩ (fun x=>m x.1.1 x.1.2.1)
theorem avH:ai (aew (M.DW)):=aG (cx:=dy) true dA Tryz.func130 hq ⟨zs1,fun x=>x.1.1⟩ (fun x=>by kernel_rfl)
def aex(m:M.av->Int->Option Int):an K:=cI 85 ⟨[.el U.Core,iq0],[]⟩ (fun x=>m x.1.1 x.1.2.1)
def aey:Cx K:=aP [(130,.plain)] [aew M.DW] []
theorem avI:aI aey:=aL ay _ (ae avH ak)
theorem avJ:ai (aex (M.DX)):=aG (cx:=aey) true avI Tryz.func85 hq ⟨zs1,fun x=>x.1.1⟩ (fun x=>by kernel_rfl)
def aez:bf K:=bm D false 27 0 [0,1,5] [1,4] adt (fun x=>M.wv x.1.1 af x.1.2.1 x.1.2.2.1) pK
def aeA(m:(List M.av)->Int->Option Int):an K:=cI 45 ⟨[.ah U.Core,iq0],[]⟩ (fun x=>m x.1.1 x.1.2.1)
def JQ:Cx K:=aP [(85,.plain)] [aex M.DX] [(5,aez)]
theorem aeB:aI JQ:=aL ay _ (ae avJ ak)
theorem avK:bg JQ (aW (aY Tryz.f45) 0) aez:=lk (cx:=JQ) (sh:=adt) (run:=fun n x=>M.wv x.1.1 n x.1.2.1 x.1.2.2.1) (bh:=pL) aeB (fun m x=>by kernel_rfl) (ae ⟨bX,fun _ _ _=>rfl⟩ (ae ⟨bp,fun _ _ _=>rfl⟩ ak))
theorem avL:ai (aeA (M.DY)):=aG (cx:=JQ) true aeB Tryz.func45 (hl1 avK) ⟨zs1,fun x=>x.1.1⟩ (fun x=>by kernel_rfl)
def Vd(m:M.aN->Int->Option Int):an K:=cI 16 Pj (fun x=>m x.1.1 x.1.2.1)
def aeC:Cx K:=aP [(44,.plain),(45,.plain)] [aeu M.DV,aeA M.DY] []
theorem avM:aI aeC:=aL ay _ (ae avG (ae avL ak))
theorem apy:ai (Vd (M.CC)):=aG (cx:=aeC) true avM Tryz.func16 hq ⟨zs1,fun x=>x.1.1⟩ (fun x=>by kernel_rfl)
def Oy(y:Bool⊕((List UInt8))){R:Type}(k:KT R):R:=match y with|.inl a0=>kk k Ex.ret aag (((),(a0,())),())|.inr a1=>kk k (Ex.exit 0) zp ((a1,((),())),())
def OC:List (cC K ((Bool)⊕((List UInt8)))):=[⟨Ex.ret,aag,fun x=>.inl x.1.2.1⟩,⟨(Ex.exit 0),zp,fun x=>.inr (x.1.1)⟩]
def aeR:bf K:=bm D false 49 0 [0,3] [0,2] JG (fun x=>M.wx x.1.1 af x.1.2.1) Oy
def Oc(m:(List UInt8)->Option Bool):an K:=cB 190 cH (fun x=>m x.1.1)
def JX:Cx K:=aP [] [] [(2,aeR)]
theorem aeS:aI JX:=aL ay _ ak
theorem av5:bg JX (aW (aY Tryz.f190) 0) aeR:=lk (cx:=JX) (sh:=JG) (run:=fun n x=>M.wx x.1.1 n x.1.2.1) (bh:=OC) aeS (fun m x=>by kernel_rfl) (ae ⟨bX,fun _ _ _=>rfl⟩ (ae ⟨bp,fun _ _ _=>rfl⟩ ak))
theorem VC:ai (Oc (M.vQ)):=aG (cx:=JX) true aeS Tryz.func190 (hl1 av5) ⟨zs0,fun x=>x.1.1⟩ (fun x=>by kernel_rfl)
def jd(y:Int⊕Unit){R:Type}(k:KT R):R:=match y with|.inl a0=>kk k Ex.ret zs1 ((a0,()),())|.inr a1=>kk k (Ex.exit 0) zs2 (((),()),())
def je:List (cC K ((Int)⊕Unit)):=[⟨Ex.ret,zs1,fun x=>.inl x.1.1⟩,⟨(Ex.exit 0),zs2,fun x=>.inr (())⟩]
def aeT:bf K:=bm D false 20 0 [0,1,5] [4] ⟨[.ah U.Import,.str,iq0],[]⟩ (fun x=>M.wy x.1.1 x.1.2.1 af x.1.2.2.1) jd
def VF(m:(List M.aO)->(List UInt8)->Option Int):an K:=cI 191 ⟨[.ah U.Import,.str],[]⟩ (fun x=>m x.1.1 x.1.2.1)
def JY:Cx K:=aP [] [] [(2,aeT)]
theorem aeU:aI JY:=aL ay _ ak
theorem av6:bg JY (aW (aY Tryz.f191) 0) aeT:=lk (cx:=JY) (sh:=⟨[.ah U.Import,.str,iq0],[]⟩) (run:=fun n x=>M.wy x.1.1 x.1.2.1 n x.1.2.2.1) (bh:=je) aeU (fun m x=>by kernel_rfl) (ae ⟨bX,fun _ _ _=>rfl⟩ (ae ⟨bp,fun _ _ _=>rfl⟩ ak))
theorem apW:ai (VF (M.CQ)):=aG (cx:=JY) true aeU Tryz.func191 (hl1 av6) ⟨zs1,fun x=>x.1.1⟩ (fun x=>by kernel_rfl)
def Oa(m:Int->Option (Int×Int×Bool)):an K:={f:=248,sh:=zs1,R:=Int×Int×Bool,run:=fun x=>m x.1.1,dflt:=default,out:=fun r=>(Sh.enc D (.bQ [iq0,iq0,.bool]) (r.1,(r.2.1,(r.2.2,()))),bk.encs D [] ())}
theorem Vx:ai (Oa (M.yu)):=aG (cx:=dy) true dA Tryz.func248 hq ⟨Pl,fun x=>(x.1.1.1,x.1.1.2.1,x.1.1.2.2.1)⟩ (fun x=>by kernel_rfl)
def aeV:bf K:=bm D false 20 0 [0,1,5] [4] ⟨[.ah U.Core,.str,iq0],[]⟩ (fun x=>M.wA x.1.1 x.1.2.1 af x.1.2.2.1) jd
def VG(m:(List M.av)->(List UInt8)->Option Int):an K:=cI 193 ⟨[.ah U.Core,.str],[]⟩ (fun x=>m x.1.1 x.1.2.1)
def JZ:Cx K:=aP [] [] [(2,aeV)]
theorem aeW:aI JZ:=aL ay _ ak
theorem av7:bg JZ (aW (aY Tryz.f193) 0) aeV:=lk (cx:=JZ) (sh:=⟨[.ah U.Core,.str,iq0],[]⟩) (run:=fun n x=>M.wA x.1.1 x.1.2.1 n x.1.2.2.1) (bh:=je) aeW (fun m x=>by kernel_rfl) (ae ⟨bX,fun _ _ _=>rfl⟩ (ae ⟨bp,fun _ _ _=>rfl⟩ ak))
theorem apX:ai (VG (M.CS)):=aG (cx:=JZ) true aeW Tryz.func193 (hl1 av7) ⟨zs1,fun x=>x.1.1⟩ (fun x=>by kernel_rfl)
def Po(m:Int->Option Bool):an K:=cB 317 zs1 (fun x=>m x.1.1)
theorem aeX:ai (Po (M.Pq)):=aG (cx:=dy) true dA Tryz.func317 hq ⟨zs0,fun x=>x.1.1⟩ (fun x=>by kernel_rfl)
def aeY(y:(Int×Int×(List M.aX))⊕(M.av×(List M.aX)×(List Int))){R:Type}(k:KT R):R:=match y with|.inl a0=>kk k Ex.ret JH (((),((),((),((),(a0.1,(a0.2.1,())))))),((),((),((),((),((),(a0.2.2,())))))))|.inr a1=>kk k (Ex.exit 0) JI (((),((),((),((),((),((),())))))),(a1.1,((),((),(a1.2.1,(a1.2.2,()))))))
def aeZ:List (cC K ((Int×Int×(List M.aX))⊕(M.av×(List M.aX)×(List Int)))):=[⟨Ex.ret,JH,fun x=>.inl (x.1.2.2.2.2.1,x.1.2.2.2.2.2.1,x.2.2.2.2.2.2.1)⟩,⟨(Ex.exit 0),JI,fun x=>.inr ((x.2.1,x.2.2.2.2.1,x.2.2.2.2.2.1))⟩]
def ae0:bf K:=bm D false 145 3 [1,5,6,7] [1,5,6,2,3,4] adu (fun x=>M.pM x.2.1 af x.1.2.2.2.1 x.2.2.2.2.1 x.2.2.2.2.2.1) aeY
def ae1(m:M.av->Option (Int×Int×(List M.aX))):an K:={f:=285,sh:=zb,R:=Int×Int×(List M.aX),run:=fun x=>m x.1.1,dflt:=default,out:=fun r=>(Sh.enc D (.bQ [.own 0,iq0,iq0]) ((),(r.1,(r.2.1,()))),bk.encs D [.arr U.CodeBlock] (r.2.2,()))}
def J0:Cx K:={tl with mode:=dO .plain [(317,.plain)],fl:=[[some U.CodeBlock],[],[]],cut:=true,call:=callOf D [Po M.Pq],loop:=dI [(4,ae0)]}
theorem ae2:aI J0:=aL ay _ (ae aeX ak)
theorem av8:bg J0 (aW (aY Tryz.f285) 0) ae0:=lk (cx:=J0) (sh:=adu) (run:=fun n x=>M.pM x.2.1 n x.1.2.2.2.1 x.2.2.2.2.1 x.2.2.2.2.2.1) (bh:=aeZ) ae2 (fun m x=>by kernel_rfl) (ae ⟨bX,fun _ _ _=>rfl⟩ (ae ⟨bp,fun _ _ _=>rfl⟩ ak))
theorem av9:ai (ae1 (M.D4)):=aG (cx:=J0) false ae2 Tryz.func285 (hl1 av8) ⟨⟨[.bQ [.own 0,iq0,iq0]],[.arr U.CodeBlock]⟩,fun x=>(x.1.1.2.1,x.1.1.2.2.1,x.2.1)⟩ (fun x=>by kernel_rfl)
def Pv(m:(List Int)->Option ((List Int))):an K:={f:=318,sh:=sM,R:=(List Int),run:=fun x=>m x.1.1,dflt:=default,out:=fun r=>(Sh.enc D (.own 0) (),bk.encs D [.arr U.i64] (r,()))}
def ae3:Cx K:={tl with mode:=dO .plain [],fl:=[[some U.i64]],call:=callOf D [],loop:=dI []}
theorem awc:aI ae3:=aL ay _ ak
theorem ae4:ai (Pv (M.qT)):=aG (cx:=ae3) false awc Tryz.func318 hq ⟨N8,fun x=>x.2.1⟩ (fun x=>by kernel_rfl)
def ae5(m:Int->(List M.aO)->(List M.av)->(List UInt8)->Int->Int->Bool->(List M.aE)->Int->Bool->(List M.aX)->(List Int)->Option (M.da×Int×(List M.aO)×(List M.av)×(List UInt8)×Int×Int×Bool×(List M.aE)×Int×Bool×(List M.aX)×(List Int))):an K:={f:=286,sh:=⟨[.ptr 0 0],[.box [iq0,.ah U.Import,.ah U.Core,.str,iq0,iq0,.bool,.ah U.Ins,.own 1,.own 2,iq0,.bool],.arr U.CodeBlock,.arr U.i64]⟩,R:=M.da×Int×(List M.aO)×(List M.av)×(List UInt8)×Int×Int×Bool×(List M.aE)×Int×Bool×(List M.aX)×(List Int),run:=fun x=>m x.2.1.1 x.2.1.2.1 x.2.1.2.2.1 x.2.1.2.2.2.1 x.2.1.2.2.2.2.1 x.2.1.2.2.2.2.2.1 x.2.1.2.2.2.2.2.2.1 x.2.1.2.2.2.2.2.2.2.1 x.2.1.2.2.2.2.2.2.2.2.2.2.1 x.2.1.2.2.2.2.2.2.2.2.2.2.2.1 x.2.2.1 x.2.2.2.1,dflt:=default,out:=fun r=>(Sh.enc D (.el U.hQ) r.1,bk.encs D [.box [iq0,.ah U.Import,.ah U.Core,.str,iq0,iq0,.bool,.ah U.Ins,.own 3,.own 4,iq0,.bool],.dead,.dead,.arr U.CodeBlock,.arr U.i64] ((r.2.1,(r.2.2.1,(r.2.2.2.1,(r.2.2.2.2.1,(r.2.2.2.2.2.1,(r.2.2.2.2.2.2.1,(r.2.2.2.2.2.2.2.1,(r.2.2.2.2.2.2.2.2.1,((),((),(r.2.2.2.2.2.2.2.2.2.1,(r.2.2.2.2.2.2.2.2.2.2.1,())))))))))))),((),((),(r.2.2.2.2.2.2.2.2.2.2.2.1,(r.2.2.2.2.2.2.2.2.2.2.2.2,()))))))}
def ae6:Cx K:={tl with mode:=dO .plain [(318,.fresh)],mv:=true,call:=callOf D [Pv M.qT],loop:=dI []}
theorem awd:aI ae6:=aL ay _ (ae ae4 ak)
theorem awe:ai (ae5 (M.D5)):=aG (cx:=ae6) true awd Tryz.func286 hq ⟨⟨[.el U.hQ],[.box [iq0,.ah U.Import,.ah U.Core,.str,iq0,iq0,.bool,.ah U.Ins,.own 3,.own 4,iq0,.bool],.dead,.dead,.arr U.CodeBlock,.arr U.i64]⟩,fun x=>(x.1.1,x.2.1.1,x.2.1.2.1,x.2.1.2.2.1,x.2.1.2.2.2.1,x.2.1.2.2.2.2.1,x.2.1.2.2.2.2.2.1,x.2.1.2.2.2.2.2.2.1,x.2.1.2.2.2.2.2.2.2.1,x.2.1.2.2.2.2.2.2.2.2.2.2.1,x.2.1.2.2.2.2.2.2.2.2.2.2.2.1,x.2.2.2.2.1,x.2.2.2.2.2.1)⟩ (fun x=>by kernel_rfl)
def D6(m:Bool->Option Int):an K:=cI 288 zs0 (fun x=>m x.1.1)
theorem J1:ai (D6 (M.lH)):=aG (cx:=dy) true dA Tryz.func288 hq ⟨zs1,fun x=>x.1.1⟩ (fun x=>by kernel_rfl)
def ae7(m:Bool->Int->(List M.aO)->(List M.av)->(List UInt8)->Int->Int->Bool->(List M.aE)->Int->Bool->(List M.aX)->(List Int)->Option (Bool×Int×(List M.aO)×(List M.av)×(List UInt8)×Int×Int×Bool×(List M.aE)×Int×Bool×(List M.aX)×(List Int))):an K:={f:=319,sh:=⟨[.ptr 0 0,.bool],[.box [iq0,.ah U.Import,.ah U.Core,.str,iq0,iq0,.bool,.ah U.Ins,.own 1,.own 2,iq0,.bool],.arr U.CodeBlock,.arr U.i64]⟩,R:=Bool×Int×(List M.aO)×(List M.av)×(List UInt8)×Int×Int×Bool×(List M.aE)×Int×Bool×(List M.aX)×(List Int),run:=fun x=>m x.1.2.1 x.2.1.1 x.2.1.2.1 x.2.1.2.2.1 x.2.1.2.2.2.1 x.2.1.2.2.2.2.1 x.2.1.2.2.2.2.2.1 x.2.1.2.2.2.2.2.2.1 x.2.1.2.2.2.2.2.2.2.1 x.2.1.2.2.2.2.2.2.2.2.2.2.1 x.2.1.2.2.2.2.2.2.2.2.2.2.2.1 x.2.2.1 x.2.2.2.1,dflt:=default,out:=fun r=>(Sh.enc D (.bool) r.1,bk.encs D [.box [iq0,.ah U.Import,.ah U.Core,.str,iq0,iq0,.bool,.ah U.Ins,.own 3,.own 4,iq0,.bool],.dead,.dead,.arr U.CodeBlock,.arr U.i64] ((r.2.1,(r.2.2.1,(r.2.2.2.1,(r.2.2.2.2.1,(r.2.2.2.2.2.1,(r.2.2.2.2.2.2.1,(r.2.2.2.2.2.2.2.1,(r.2.2.2.2.2.2.2.2.1,((),((),(r.2.2.2.2.2.2.2.2.2.1,(r.2.2.2.2.2.2.2.2.2.2.1,())))))))))))),((),((),(r.2.2.2.2.2.2.2.2.2.2.2.1,(r.2.2.2.2.2.2.2.2.2.2.2.2,()))))))}
def ae8:Cx K:={tl with mode:=dO .plain [(288,.plain)],cut:=true,mv:=true,call:=callOf D [D6 M.lH],loop:=dI []}
theorem awf:aI ae8:=aL ay _ (ae J1 ak)
theorem awg:ai (ae7 (M.D7)):=aG (cx:=ae8) true awf Tryz.func319 hq ⟨⟨[.bool],[.box [iq0,.ah U.Import,.ah U.Core,.str,iq0,iq0,.bool,.ah U.Ins,.own 3,.own 4,iq0,.bool],.dead,.dead,.arr U.CodeBlock,.arr U.i64]⟩,fun x=>(x.1.1,x.2.1.1,x.2.1.2.1,x.2.1.2.2.1,x.2.1.2.2.2.1,x.2.1.2.2.2.2.1,x.2.1.2.2.2.2.2.1,x.2.1.2.2.2.2.2.2.1,x.2.1.2.2.2.2.2.2.2.1,x.2.1.2.2.2.2.2.2.2.2.2.2.1,x.2.1.2.2.2.2.2.2.2.2.2.2.2.1,x.2.2.2.2.1,x.2.2.2.2.2.1)⟩ (fun x=>by kernel_rfl)
def ae9(m:M.aN->M.av->M.aE->Int->Option Bool):an K:=cB 320 ⟨[.el U.Module,.el U.Core,.el U.Ins,iq0],[]⟩ (fun x=>m x.1.1 x.1.2.1 x.1.2.2.1 x.1.2.2.2.1)
theorem awh:ai (ae9 (M.D8)):=aG (cx:=dy) true dA Tryz.func320 hq ⟨zs0,fun x=>x.1.1⟩ (fun x=>by kernel_rfl)
def afa(m:M.aN->M.aE->Option (Int×Int)):an K:={f:=321,sh:=⟨[.el U.Module,.el U.Ins],[]⟩,R:=Int×Int,run:=fun x=>m x.1.1 x.1.2.1,dflt:=default,out:=fun r=>(Sh.enc D (.bQ [iq0,iq0]) (r.1,(r.2,())),bk.encs D [] ())}
def Px:Cx K:=aP [(288,.plain)] [D6 M.lH] []
theorem afb:aI Px:=aL ay _ (ae J1 ak)
theorem awi:ai (afa (M.D9)):=aG (cx:=Px) true afb Tryz.func321 hq ⟨C3,fun x=>(x.1.1.1,x.1.1.2.1)⟩ (fun x=>by kernel_rfl)
def afc(m:M.eE->Option Int):an K:=cI 322 ⟨[.rp U.mI 0],[]⟩ (fun x=>m x.1.1)
theorem awj:ai (afc (M.zr)):=aG (cx:=dy) true dA Tryz.func322 hq ⟨zs1,fun x=>x.1.1⟩ (fun x=>by kernel_rfl)
def afd(m:M.eE->Int->Option Int):an K:=cI 323 ⟨[.rp U.mI 0,iq0],[]⟩ (fun x=>m x.1.1 x.1.2.1)
theorem awk:ai (afd (M.tI)):=aG (cx:=Px) true afb Tryz.func323 hq ⟨zs1,fun x=>x.1.1⟩ (fun x=>by kernel_rfl)
def afe:bf K:=bm D false 26 0 [0,1,5] [4] adv (fun x=>M.wB x.1.1 x.1.2.1 af x.1.2.2.1) jd
def aff(m:M.eE->Int->Option Int):an K:=cI 324 ⟨[.rp U.mI 0,iq0],[]⟩ (fun x=>m x.1.1 x.1.2.1)
def J2:Cx K:=aP [] [] [(2,afe)]
theorem afg:aI J2:=aL ay _ ak
theorem awl:bg J2 (aW (aY Tryz.f324) 0) afe:=lk (cx:=J2) (sh:=adv) (run:=fun n x=>M.wB x.1.1 x.1.2.1 n x.1.2.2.1) (bh:=je) afg (fun m x=>by kernel_rfl) (ae ⟨bX,fun _ _ _=>rfl⟩ (ae ⟨bp,fun _ _ _=>rfl⟩ ak))
theorem awm:ai (aff (M.Ea)):=aG (cx:=J2) true afg Tryz.func324 (hl1 awl) ⟨zs1,fun x=>x.1.1⟩ (fun x=>by kernel_rfl)
def afh(m:Int->Option Bool):an K:=cB 325 zs1 (fun x=>m x.1.1)
theorem awn:ai (afh (M.afi)):=aG (cx:=dy) true dA Tryz.func325 hq ⟨zs0,fun x=>x.1.1⟩ (fun x=>by kernel_rfl)
def afj(m:Int->Int->(List M.aO)->(List M.av)->(List UInt8)->Int->Int->Bool->(List M.aE)->Int->Bool->(List M.aX)->(List Int)->Option (Int×Int×(List M.aO)×(List M.av)×(List UInt8)×Int×Int×Bool×(List M.aE)×Int×Bool×(List M.aX)×(List Int))):an K:={f:=287,sh:=⟨[.ptr 0 0,iq0],[.box [iq0,.ah U.Import,.ah U.Core,.str,iq0,iq0,.bool,.ah U.Ins,.own 1,.own 2,iq0,.bool],.arr U.CodeBlock,.arr U.i64]⟩,R:=Int×Int×(List M.aO)×(List M.av)×(List UInt8)×Int×Int×Bool×(List M.aE)×Int×Bool×(List M.aX)×(List Int),run:=fun x=>m x.1.2.1 x.2.1.1 x.2.1.2.1 x.2.1.2.2.1 x.2.1.2.2.2.1 x.2.1.2.2.2.2.1 x.2.1.2.2.2.2.2.1 x.2.1.2.2.2.2.2.2.1 x.2.1.2.2.2.2.2.2.2.1 x.2.1.2.2.2.2.2.2.2.2.2.2.1 x.2.1.2.2.2.2.2.2.2.2.2.2.2.1 x.2.2.1 x.2.2.2.1,dflt:=default,out:=fun r=>(Sh.enc D (.int .i64) r.1,bk.encs D [.box [iq0,.ah U.Import,.ah U.Core,.str,iq0,iq0,.bool,.ah U.Ins,.own 3,.own 4,iq0,.bool],.dead,.dead,.arr U.CodeBlock,.arr U.i64] ((r.2.1,(r.2.2.1,(r.2.2.2.1,(r.2.2.2.2.1,(r.2.2.2.2.2.1,(r.2.2.2.2.2.2.1,(r.2.2.2.2.2.2.2.1,(r.2.2.2.2.2.2.2.2.1,((),((),(r.2.2.2.2.2.2.2.2.2.1,(r.2.2.2.2.2.2.2.2.2.2.1,())))))))))))),((),((),(r.2.2.2.2.2.2.2.2.2.2.2.1,(r.2.2.2.2.2.2.2.2.2.2.2.2,()))))))}
def afk:Cx K:={tl with mode:=dO .plain [(319,.eV),(320,.plain),(321,.plain),(322,.plain),(323,.plain),(288,.plain),(317,.plain),(324,.plain),(318,.fresh),(325,.plain)],mv:=true,call:=callOf D [ae7 M.D7,ae9 M.D8,afa M.D9,afc M.zr,afd M.tI,D6 M.lH,Po M.Pq,aff M.Ea,Pv M.qT,afh M.afi],loop:=dI []}
theorem awo:aI afk:=aL ay _ (ae awg (ae awh (ae awi (ae awj (ae awk (ae J1 (ae aeX (ae awm (ae ae4 (ae awn ak))))))))))
theorem awp:ai (afj (M.Eb)):=aG (cx:=afk) true awo Tryz.func287 hq ⟨⟨[iq0],[.box [iq0,.ah U.Import,.ah U.Core,.str,iq0,iq0,.bool,.ah U.Ins,.own 3,.own 4,iq0,.bool],.dead,.dead,.arr U.CodeBlock,.arr U.i64]⟩,fun x=>(x.1.1,x.2.1.1,x.2.1.2.1,x.2.1.2.2.1,x.2.1.2.2.2.1,x.2.1.2.2.2.2.1,x.2.1.2.2.2.2.2.1,x.2.1.2.2.2.2.2.2.1,x.2.1.2.2.2.2.2.2.2.1,x.2.1.2.2.2.2.2.2.2.2.2.2.1,x.2.1.2.2.2.2.2.2.2.2.2.2.2.1,x.2.2.2.2.1,x.2.2.2.2.2.1)⟩ (fun x=>by kernel_rfl)
def awq(y:(Int×Int×(List M.da))⊕(M.av×Int×(List M.aO)×(List M.av)×(List UInt8)×Int×Int×Bool×(List M.aE)×Int×Bool×(List M.da)×(List M.aX)×(List Int))){R:Type}(k:KT R):R:=match y with|.inl a0=>kk k Ex.ret adw (((),((),((),((),((),(a0.1,(a0.2.1,()))))))),((),((),((),((),((),((),(a0.2.2,((),((),()))))))))))|.inr a1=>kk k (Ex.exit 0) adx (((),((),((),((),((),((),((),()))))))),(a1.1,((a1.2.1,(a1.2.2.1,(a1.2.2.2.1,(a1.2.2.2.2.1,(a1.2.2.2.2.2.1,(a1.2.2.2.2.2.2.1,(a1.2.2.2.2.2.2.2.1,(a1.2.2.2.2.2.2.2.2.1,((),((),(a1.2.2.2.2.2.2.2.2.2.1,(a1.2.2.2.2.2.2.2.2.2.2.1,())))))))))))),((),((),((),(a1.2.2.2.2.2.2.2.2.2.2.2.1,(a1.2.2.2.2.2.2.2.2.2.2.2.2.1,(a1.2.2.2.2.2.2.2.2.2.2.2.2.2,())))))))))
def awr:List (cC K ((Int×Int×(List M.da))⊕(M.av×Int×(List M.aO)×(List M.av)×(List UInt8)×Int×Int×Bool×(List M.aE)×Int×Bool×(List M.da)×(List M.aX)×(List Int)))):=[⟨Ex.ret,adw,fun x=>.inl (x.1.2.2.2.2.2.1,x.1.2.2.2.2.2.2.1,x.2.2.2.2.2.2.2.1)⟩,⟨(Ex.exit 0),adx,fun x=>.inr ((x.2.1,x.2.2.1.1,x.2.2.1.2.1,x.2.2.1.2.2.1,x.2.2.1.2.2.2.1,x.2.2.1.2.2.2.2.1,x.2.2.1.2.2.2.2.2.1,x.2.2.1.2.2.2.2.2.2.1,x.2.2.1.2.2.2.2.2.2.2.1,x.2.2.1.2.2.2.2.2.2.2.2.2.2.1,x.2.2.1.2.2.2.2.2.2.2.2.2.2.2.1,x.2.2.2.2.2.2.1,x.2.2.2.2.2.2.2.1,x.2.2.2.2.2.2.2.2.1))⟩]
def afl:bf K:=bm D false 82 5 [8,12,13,14] [8,12,13,4,5,6,7] ady (fun x=>M.tJ x.2.1 af x.1.2.2.2.1 x.2.2.1.1 x.2.2.1.2.1 x.2.2.1.2.2.1 x.2.2.1.2.2.2.1 x.2.2.1.2.2.2.2.1 x.2.2.1.2.2.2.2.2.1 x.2.2.1.2.2.2.2.2.2.1 x.2.2.1.2.2.2.2.2.2.2.1 x.2.2.1.2.2.2.2.2.2.2.2.2.2.1 x.2.2.1.2.2.2.2.2.2.2.2.2.2.2.1 x.2.2.2.2.2.2.1 x.2.2.2.2.2.2.2.1 x.2.2.2.2.2.2.2.2.1) awq
def VP(m:M.aN->Int->Option ((List M.da)×Int×Int)):an K:={f:=243,sh:=Pj,R:=(List M.da)×Int×Int,run:=fun x=>m x.1.1 x.1.2.1,dflt:=default,out:=fun r=>(Sh.enc D (.bQ [.any,.ah U.hQ,iq0,iq0]) ((),(r.1,(r.2.1,(r.2.2,())))),bk.encs D [] ())}
def J3:Cx K:={tl with mode:=dO .plain [(285,.fresh),(286,.eV),(287,.eV),(288,.plain)],J4:=[true,false,false,false],call:=callOf D [ae1 M.D4,ae5 M.D5,afj M.Eb,D6 M.lH],loop:=dI [(8,afl)]}
theorem afm:aI J3:=aL ay _ (ae av9 (ae awe (ae awp (ae J1 ak))))
theorem aws:bg J3 (aW (aY Tryz.f243) 0) afl:=lk (cx:=J3) (sh:=ady) (run:=fun n x=>M.tJ x.2.1 n x.1.2.2.2.1 x.2.2.1.1 x.2.2.1.2.1 x.2.2.1.2.2.1 x.2.2.1.2.2.2.1 x.2.2.1.2.2.2.2.1 x.2.2.1.2.2.2.2.2.1 x.2.2.1.2.2.2.2.2.2.1 x.2.2.1.2.2.2.2.2.2.2.1 x.2.2.1.2.2.2.2.2.2.2.2.2.2.1 x.2.2.1.2.2.2.2.2.2.2.2.2.2.2.1 x.2.2.2.2.2.2.1 x.2.2.2.2.2.2.2.1 x.2.2.2.2.2.2.2.2.1) (bh:=awr) afm (fun m x=>by kernel_rfl) (ae ⟨bX,fun _ _ _=>rfl⟩ (ae ⟨bp,fun _ _ _=>rfl⟩ ak))
theorem ap0:ai (VP (M.CU)):=aG (cx:=J3) true afm Tryz.func243 (hl1 aws) ⟨⟨[.bQ [.any,.ah U.hQ,iq0,iq0]],[]⟩,fun x=>(x.1.1.2.1,x.1.1.2.2.1,x.1.1.2.2.2.1)⟩ (fun x=>by kernel_rfl)
def afn(m:Int->Option (Int×Int×Bool)):an K:={f:=310,sh:=zs1,R:=Int×Int×Bool,run:=fun x=>m x.1.1,dflt:=default,out:=fun r=>(Sh.enc D (.bQ [iq0,iq0,.bool]) (r.1,(r.2.1,(r.2.2,()))),bk.encs D [] ())}
theorem awt:ai (afn (M.afo)):=aG (cx:=dy) true dA Tryz.func310 hq ⟨Pl,fun x=>(x.1.1.1,x.1.1.2.1,x.1.1.2.2.1)⟩ (fun x=>by kernel_rfl)
def Ov(m:Int->Option (Int×Int×Bool)):an K:={f:=271,sh:=zs1,R:=Int×Int×Bool,run:=fun x=>m x.1.1,dflt:=default,out:=fun r=>(Sh.enc D (.bQ [iq0,iq0,.bool]) (r.1,(r.2.1,(r.2.2,()))),bk.encs D [] ())}
def afp:Cx K:=aP [(310,.plain)] [afn M.afo] []
theorem awu:aI afp:=aL ay _ (ae awt ak)
theorem Xq:ai (Ov (M.m3)):=aG (cx:=afp) true awu Tryz.func271 hq ⟨Pl,fun x=>(x.1.1.1,x.1.1.2.1,x.1.1.2.2.1)⟩ (fun x=>by kernel_rfl)
def X6(m:Int->Option Bool):an K:=cB 272 ⟨[.int .u8],[]⟩ (fun x=>m x.1.1)
theorem arx:ai (X6 (M.X7)):=aG (cx:=dy) true dA Tryz.func272 hq ⟨zs0,fun x=>x.1.1⟩ (fun x=>by kernel_rfl)
def X8(m:Int->Option Bool):an K:=cB 273 ⟨[.int .u8],[]⟩ (fun x=>m x.1.1)
theorem ary:ai (X8 (M.X9)):=aG (cx:=dy) true dA Tryz.func273 hq ⟨zs0,fun x=>x.1.1⟩ (fun x=>by kernel_rfl)
def OA(m:(List UInt8)->Option Int):an K:=cI 81 cH (fun x=>m x.1.1)
theorem Yb:ai (OA (M.OB)):=aG (cx:=dy) true dA Tryz.func81 hq ⟨zs1,fun x=>x.1.1⟩ (fun x=>by kernel_rfl)
def Ip(m:(List M.av)->Option Int):an K:=cI 173 ⟨[.ah U.Core],[]⟩ (fun x=>m x.1.1)
theorem OE:ai (Ip (M.Iq)):=aG (cx:=dy) true dA Tryz.func173 hq ⟨zs1,fun x=>x.1.1⟩ (fun x=>by kernel_rfl)
def Py(m:Int->Option Bool):an K:=cB 341 zs1 (fun x=>m x.1.1)
theorem afq:ai (Py (M.Pz)):=aG (cx:=dy) true dA Tryz.func341 hq ⟨zs0,fun x=>x.1.1⟩ (fun x=>by kernel_rfl)
def afr:bf K:=bm D false 141 3 [1,5,6,15,16,17] [1,5,6,2,3,4] adz (fun x=>M.pN x.1.2.2.2.1 x.1.2.2.2.2.1 x.2.1 af x.1.2.2.2.2.2.1 x.2.2.2.2.1 x.2.2.2.2.2.1) aeY
def Jr(m:(List M.aE)->Option Int):an K:=cI 233 C4 (fun x=>m x.1.1)
theorem O4:ai (Jr (M.Js)):=aG (cx:=dy) true dA Tryz.func233 hq ⟨zs1,fun x=>x.1.1⟩ (fun x=>by kernel_rfl)
def afs(m:M.av->Option ((List M.aX)×Int×Int)):an K:={f:=303,sh:=zb,R:=(List M.aX)×Int×Int,run:=fun x=>m x.1.1,dflt:=default,out:=fun r=>(Sh.enc D (.bQ [.ah U.CodeBlock,iq0,iq0]) (r.1,(r.2.1,(r.2.2,()))),bk.encs D [] ())}
def J5:Cx K:={tl with mode:=dO .plain [(341,.plain),(233,.plain)],cut:=true,call:=callOf D [Py M.Pz,Jr M.Js],loop:=dI [(3,afr)]}
theorem aft:aI J5:=aL ay _ (ae afq (ae O4 ak))
theorem awv:bg J5 (aW (aY Tryz.f303) 0) afr:=lk (cx:=J5) (sh:=adz) (run:=fun n x=>M.pN x.1.2.2.2.1 x.1.2.2.2.2.1 x.2.1 n x.1.2.2.2.2.2.1 x.2.2.2.2.1 x.2.2.2.2.2.1) (bh:=aeZ) aft (fun m x=>by kernel_rfl) (ae ⟨bX,fun _ _ _=>rfl⟩ (ae ⟨bp,fun _ _ _=>rfl⟩ ak))
theorem aww:ai (afs (M.Ec)):=aG (cx:=J5) true aft Tryz.func303 (hl1 awv) ⟨⟨[.bQ [.ah U.CodeBlock,iq0,iq0]],[]⟩,fun x=>(x.1.1.1,x.1.1.2.1,x.1.1.2.2.1)⟩ (fun x=>by kernel_rfl)
def afu(m:Int->(List M.aO)->(List M.av)->(List UInt8)->Int->Int->Bool->(List M.aE)->(List M.aX)->Int->Int->Bool->(List Int)->(List Int)->Option (Bool×Int×Int×(List M.aO)×(List M.av)×(List UInt8)×Int×Int×Bool×(List M.aE)×(List M.aX)×Int×Int×Bool×(List Int)×(List Int)×(List Int))):an K:={f:=304,sh:=⟨[.ptr 0 0],[.box [iq0,.ah U.Import,.ah U.Core,.str,iq0,iq0,.bool,.ah U.Ins,.ah U.CodeBlock,iq0,.own 1,.own 2,iq0,.bool],.arr U.i64,.arr U.i64]⟩,R:=Bool×Int×Int×(List M.aO)×(List M.av)×(List UInt8)×Int×Int×Bool×(List M.aE)×(List M.aX)×Int×Int×Bool×(List Int)×(List Int)×(List Int),run:=fun x=>m x.2.1.1 x.2.1.2.1 x.2.1.2.2.1 x.2.1.2.2.2.1 x.2.1.2.2.2.2.1 x.2.1.2.2.2.2.2.1 x.2.1.2.2.2.2.2.2.1 x.2.1.2.2.2.2.2.2.2.1 x.2.1.2.2.2.2.2.2.2.2.1 x.2.1.2.2.2.2.2.2.2.2.2.1 x.2.1.2.2.2.2.2.2.2.2.2.2.2.2.1 x.2.1.2.2.2.2.2.2.2.2.2.2.2.2.2.1 x.2.2.1 x.2.2.2.1,dflt:=default,out:=fun r=>(Sh.enc D (.agg [.bool,iq0,.own 3]) (r.1,(r.2.1,((),()))),bk.encs D [.box [iq0,.ah U.Import,.ah U.Core,.str,iq0,iq0,.bool,.ah U.Ins,.ah U.CodeBlock,iq0,.own 4,.own 5,iq0,.bool],.dead,.dead,.arr U.i64,.arr U.i64,.arr U.i64] ((r.2.2.1,(r.2.2.2.1,(r.2.2.2.2.1,(r.2.2.2.2.2.1,(r.2.2.2.2.2.2.1,(r.2.2.2.2.2.2.2.1,(r.2.2.2.2.2.2.2.2.1,(r.2.2.2.2.2.2.2.2.2.1,(r.2.2.2.2.2.2.2.2.2.2.1,(r.2.2.2.2.2.2.2.2.2.2.2.1,((),((),(r.2.2.2.2.2.2.2.2.2.2.2.2.1,(r.2.2.2.2.2.2.2.2.2.2.2.2.2.1,())))))))))))))),((),((),(r.2.2.2.2.2.2.2.2.2.2.2.2.2.2.1,(r.2.2.2.2.2.2.2.2.2.2.2.2.2.2.2.1,(r.2.2.2.2.2.2.2.2.2.2.2.2.2.2.2.2,())))))))}
def afv:Cx K:={tl with mode:=dO .plain [(342,.fresh)],fl:=[[none,none,some U.i64]],deep:=fun c=>dS (D.cells c (K.zero c)),mv:=true,call:=callOf D [PC M.tK],loop:=dI []}
theorem awx:aI afv:=aL ay _ (ae awy ak)
theorem awz:ai (afu (M.Ed)):=aG (cx:=afv) false awx Tryz.func304 hq ⟨⟨[.agg [.bool,iq0,.own 3]],[.box [iq0,.ah U.Import,.ah U.Core,.str,iq0,iq0,.bool,.ah U.Ins,.ah U.CodeBlock,iq0,.own 4,.own 5,iq0,.bool],.dead,.dead,.arr U.i64,.arr U.i64,.arr U.i64]⟩,fun x=>(x.1.1.1,x.1.1.2.1,x.2.1.1,x.2.1.2.1,x.2.1.2.2.1,x.2.1.2.2.2.1,x.2.1.2.2.2.2.1,x.2.1.2.2.2.2.2.1,x.2.1.2.2.2.2.2.2.1,x.2.1.2.2.2.2.2.2.2.1,x.2.1.2.2.2.2.2.2.2.2.1,x.2.1.2.2.2.2.2.2.2.2.2.1,x.2.1.2.2.2.2.2.2.2.2.2.2.2.2.1,x.2.1.2.2.2.2.2.2.2.2.2.2.2.2.2.1,x.2.2.2.2.1,x.2.2.2.2.2.1,x.2.2.2.2.2.2.1)⟩ (fun x=>by kernel_rfl)
def we(m:Bool->Option Int):an K:=cI 164 zs0 (fun x=>m x.1.1)
theorem zl:ai (we (M.iD)):=aG (cx:=dy) true dA Tryz.func164 hq ⟨zs1,fun x=>x.1.1⟩ (fun x=>by kernel_rfl)
def PD(m:M.ek->Option Int):an K:=cI 346 ⟨[.rp U.checker 0],[]⟩ (fun x=>m x.1.1)
theorem afw:ai (PD (M.wC)):=aG (cx:=dy) true dA Tryz.func346 hq ⟨zs1,fun x=>x.1.1⟩ (fun x=>by kernel_rfl)
def afx(m:M.aE->Int->(List M.aO)->(List M.av)->(List UInt8)->Int->Int->Bool->(List M.aE)->(List M.aX)->Int->Int->Bool->(List Int)->(List Int)->Option (Int×Int×(List M.aO)×(List M.av)×(List UInt8)×Int×Int×Bool×(List M.aE)×(List M.aX)×Int×Int×Bool×(List Int)×(List Int))):an K:={f:=343,sh:=adA,R:=Int×Int×(List M.aO)×(List M.av)×(List UInt8)×Int×Int×Bool×(List M.aE)×(List M.aX)×Int×Int×Bool×(List Int)×(List Int),run:=fun x=>m x.1.2.1 x.2.1.1 x.2.1.2.1 x.2.1.2.2.1 x.2.1.2.2.2.1 x.2.1.2.2.2.2.1 x.2.1.2.2.2.2.2.1 x.2.1.2.2.2.2.2.2.1 x.2.1.2.2.2.2.2.2.2.1 x.2.1.2.2.2.2.2.2.2.2.1 x.2.1.2.2.2.2.2.2.2.2.2.1 x.2.1.2.2.2.2.2.2.2.2.2.2.2.2.1 x.2.1.2.2.2.2.2.2.2.2.2.2.2.2.2.1 x.2.2.1 x.2.2.2.1,dflt:=default,out:=fun r=>(Sh.enc D (.int .i64) r.1,bk.encs D [.box [iq0,.ah U.Import,.ah U.Core,.str,iq0,iq0,.bool,.ah U.Ins,.ah U.CodeBlock,iq0,.own 3,.own 4,iq0,.bool],.dead,.dead,.arr U.i64,.arr U.i64] ((r.2.1,(r.2.2.1,(r.2.2.2.1,(r.2.2.2.2.1,(r.2.2.2.2.2.1,(r.2.2.2.2.2.2.1,(r.2.2.2.2.2.2.2.1,(r.2.2.2.2.2.2.2.2.1,(r.2.2.2.2.2.2.2.2.2.1,(r.2.2.2.2.2.2.2.2.2.2.1,((),((),(r.2.2.2.2.2.2.2.2.2.2.2.1,(r.2.2.2.2.2.2.2.2.2.2.2.2.1,())))))))))))))),((),((),(r.2.2.2.2.2.2.2.2.2.2.2.2.2.1,(r.2.2.2.2.2.2.2.2.2.2.2.2.2.2,()))))))}
def afy:Cx K:={tl with mode:=dO .plain [(164,.plain),(346,.plain)],cut:=true,mv:=true,call:=callOf D [we M.iD,PD M.wC],loop:=dI []}
theorem awC:aI afy:=aL ay _ (ae zl (ae afw ak))
theorem awD:ai (afx (M.Ee)):=aG (cx:=afy) true awC Tryz.func343 hq ⟨adB,fun x=>(x.1.1,x.2.1.1,x.2.1.2.1,x.2.1.2.2.1,x.2.1.2.2.2.1,x.2.1.2.2.2.2.1,x.2.1.2.2.2.2.2.1,x.2.1.2.2.2.2.2.2.1,x.2.1.2.2.2.2.2.2.2.1,x.2.1.2.2.2.2.2.2.2.2.1,x.2.1.2.2.2.2.2.2.2.2.2.1,x.2.1.2.2.2.2.2.2.2.2.2.2.2.2.1,x.2.1.2.2.2.2.2.2.2.2.2.2.2.2.2.1,x.2.2.2.2.1,x.2.2.2.2.2.1)⟩ (fun x=>by kernel_rfl)
def O5(m:(List M.aO)->Option Int):an K:=cI 172 Og (fun x=>m x.1.1)
theorem ab1:ai (O5 (M.O6)):=aG (cx:=dy) true dA Tryz.func172 hq ⟨zs1,fun x=>x.1.1⟩ (fun x=>by kernel_rfl)
def IE(m:(List Int)->Option Int):an K:=cI 215 sM (fun x=>m x.1.1)
theorem OK:ai (IE (M.IF)):=aG (cx:=dy) true dA Tryz.func215 hq ⟨zs1,fun x=>x.1.1⟩ (fun x=>by kernel_rfl)
def afz(m:M.ek->M.aE->Option Bool):an K:=cB 344 adl (fun x=>m x.1.1 x.1.2.1)
def afA:Cx K:=aP [(173,.plain),(172,.plain),(215,.plain)] [Ip M.Iq,O5 M.O6,IE M.IF] []
theorem awE:aI afA:=aL ay _ (ae OE (ae ab1 (ae OK ak)))
theorem awF:ai (afz (M.Ef)):=aG (cx:=afA) true awE Tryz.func344 hq ⟨zs0,fun x=>x.1.1⟩ (fun x=>by kernel_rfl)
def afB(m:M.ek->M.aE->Option (Int×Int)):an K:={f:=345,sh:=adl,R:=Int×Int,run:=fun x=>m x.1.1 x.1.2.1,dflt:=default,out:=fun r=>(Sh.enc D (.bQ [iq0,iq0]) (r.1,(r.2,())),bk.encs D [] ())}
def afC:Cx K:=aP [(164,.plain)] [we M.iD] []
theorem awG:aI afC:=aL ay _ (ae zl ak)
theorem awH:ai (afB (M.Eg)):=aG (cx:=afC) true awG Tryz.func345 hq ⟨C3,fun x=>(x.1.1.1,x.1.1.2.1)⟩ (fun x=>by kernel_rfl)
def afD(m:M.ek->M.aE->Option Int):an K:=cI 347 adl (fun x=>m x.1.1 x.1.2.1)
def afE:Cx K:=aP [(164,.plain),(215,.plain)] [we M.iD,IE M.IF] []
theorem awI:aI afE:=aL ay _ (ae zl (ae OK ak))
theorem awJ:ai (afD (M.Eh)):=aG (cx:=afE) true awI Tryz.func347 hq ⟨zs1,fun x=>x.1.1⟩ (fun x=>by kernel_rfl)
def afF(m:M.aE->Int->(List M.aO)->(List M.av)->(List UInt8)->Int->Int->Bool->(List M.aE)->(List M.aX)->Int->Int->Bool->(List Int)->(List Int)->Option (Int×Int×(List M.aO)×(List M.av)×(List UInt8)×Int×Int×Bool×(List M.aE)×(List M.aX)×Int×Int×Bool×(List Int)×(List Int))):an K:={f:=305,sh:=adA,R:=Int×Int×(List M.aO)×(List M.av)×(List UInt8)×Int×Int×Bool×(List M.aE)×(List M.aX)×Int×Int×Bool×(List Int)×(List Int),run:=fun x=>m x.1.2.1 x.2.1.1 x.2.1.2.1 x.2.1.2.2.1 x.2.1.2.2.2.1 x.2.1.2.2.2.2.1 x.2.1.2.2.2.2.2.1 x.2.1.2.2.2.2.2.2.1 x.2.1.2.2.2.2.2.2.2.1 x.2.1.2.2.2.2.2.2.2.2.1 x.2.1.2.2.2.2.2.2.2.2.2.1 x.2.1.2.2.2.2.2.2.2.2.2.2.2.2.1 x.2.1.2.2.2.2.2.2.2.2.2.2.2.2.2.1 x.2.2.1 x.2.2.2.1,dflt:=default,out:=fun r=>(Sh.enc D (.int .i64) r.1,bk.encs D [.box [iq0,.ah U.Import,.ah U.Core,.str,iq0,iq0,.bool,.ah U.Ins,.ah U.CodeBlock,iq0,.own 3,.own 4,iq0,.bool],.dead,.dead,.arr U.i64,.arr U.i64] ((r.2.1,(r.2.2.1,(r.2.2.2.1,(r.2.2.2.2.1,(r.2.2.2.2.2.1,(r.2.2.2.2.2.2.1,(r.2.2.2.2.2.2.2.1,(r.2.2.2.2.2.2.2.2.1,(r.2.2.2.2.2.2.2.2.2.1,(r.2.2.2.2.2.2.2.2.2.2.1,((),((),(r.2.2.2.2.2.2.2.2.2.2.2.1,(r.2.2.2.2.2.2.2.2.2.2.2.2.1,())))))))))))))),((),((),(r.2.2.2.2.2.2.2.2.2.2.2.2.2.1,(r.2.2.2.2.2.2.2.2.2.2.2.2.2.2,()))))))}
def afG:Cx K:={tl with mode:=dO .plain [(343,.eV),(344,.plain),(345,.plain),(346,.plain),(347,.plain),(341,.plain)],mv:=true,call:=callOf D [afx M.Ee,afz M.Ef,afB M.Eg,PD M.wC,afD M.Eh,Py M.Pz],loop:=dI []}
theorem awK:aI afG:=aL ay _ (ae awD (ae awF (ae awH (ae afw (ae awJ (ae afq ak))))))
theorem awL:ai (afF (M.Ei)):=aG (cx:=afG) true awK Tryz.func305 hq ⟨adB,fun x=>(x.1.1,x.2.1.1,x.2.1.2.1,x.2.1.2.2.1,x.2.1.2.2.2.1,x.2.1.2.2.2.2.1,x.2.1.2.2.2.2.2.1,x.2.1.2.2.2.2.2.2.1,x.2.1.2.2.2.2.2.2.2.1,x.2.1.2.2.2.2.2.2.2.2.1,x.2.1.2.2.2.2.2.2.2.2.2.1,x.2.1.2.2.2.2.2.2.2.2.2.2.2.2.1,x.2.1.2.2.2.2.2.2.2.2.2.2.2.2.2.1,x.2.2.2.2.1,x.2.2.2.2.2.1)⟩ (fun x=>by kernel_rfl)
def awM(y:(Int×Int×(List M.da)×(List M.aX))⊕((List M.aX)×M.av×Int×(List M.aO)×(List M.av)×(List UInt8)×Int×Int×Bool×(List M.aE)×(List M.aX)×Int×Int×Bool×(List M.da)×(List Int)×(List Int))){R:Type}(k:KT R):R:=match y with|.inl a0=>kk k Ex.ret adC (((),((),((),((),((),((),(a0.1,(a0.2.1,())))))))),((),((),((),((),((),((),(a0.2.2.1,(a0.2.2.2,((),((),())))))))))))|.inr a1=>kk k (Ex.exit 0) adD (((),(a1.1,((),((),((),((),((),((),())))))))),(a1.2.1,((a1.2.2.1,(a1.2.2.2.1,(a1.2.2.2.2.1,(a1.2.2.2.2.2.1,(a1.2.2.2.2.2.2.1,(a1.2.2.2.2.2.2.2.1,(a1.2.2.2.2.2.2.2.2.1,(a1.2.2.2.2.2.2.2.2.2.1,(a1.2.2.2.2.2.2.2.2.2.2.1,(a1.2.2.2.2.2.2.2.2.2.2.2.1,((),((),(a1.2.2.2.2.2.2.2.2.2.2.2.2.1,(a1.2.2.2.2.2.2.2.2.2.2.2.2.2.1,())))))))))))))),((),((),((),(a1.2.2.2.2.2.2.2.2.2.2.2.2.2.2.1,(a1.2.2.2.2.2.2.2.2.2.2.2.2.2.2.2.1,(a1.2.2.2.2.2.2.2.2.2.2.2.2.2.2.2.2,())))))))))
def awN:List (cC K ((Int×Int×(List M.da)×(List M.aX))⊕((List M.aX)×M.av×Int×(List M.aO)×(List M.av)×(List UInt8)×Int×Int×Bool×(List M.aE)×(List M.aX)×Int×Int×Bool×(List M.da)×(List Int)×(List Int)))):=[⟨Ex.ret,adC,fun x=>.inl (x.1.2.2.2.2.2.2.1,x.1.2.2.2.2.2.2.2.1,x.2.2.2.2.2.2.2.1,x.2.2.2.2.2.2.2.2.1)⟩,⟨(Ex.exit 0),adD,fun x=>.inr ((x.1.2.1,x.2.1,x.2.2.1.1,x.2.2.1.2.1,x.2.2.1.2.2.1,x.2.2.1.2.2.2.1,x.2.2.1.2.2.2.2.1,x.2.2.1.2.2.2.2.2.1,x.2.2.1.2.2.2.2.2.2.1,x.2.2.1.2.2.2.2.2.2.2.1,x.2.2.1.2.2.2.2.2.2.2.2.1,x.2.2.1.2.2.2.2.2.2.2.2.2.1,x.2.2.1.2.2.2.2.2.2.2.2.2.2.2.2.1,x.2.2.1.2.2.2.2.2.2.2.2.2.2.2.2.2.1,x.2.2.2.2.2.2.1,x.2.2.2.2.2.2.2.1,x.2.2.2.2.2.2.2.2.1))⟩]
def afH:bf K:=bm D false 84 5 [8,9,12,13,40,41,42] [8,9,12,13,4,5,6,7] adE (fun x=>M.tL x.1.2.1 x.1.2.2.2.2.1 x.1.2.2.2.2.2.1 x.2.1 af x.1.2.2.2.2.2.2.1 x.2.2.1.1 x.2.2.1.2.1 x.2.2.1.2.2.1 x.2.2.1.2.2.2.1 x.2.2.1.2.2.2.2.1 x.2.2.1.2.2.2.2.2.1 x.2.2.1.2.2.2.2.2.2.1 x.2.2.1.2.2.2.2.2.2.2.1 x.2.2.1.2.2.2.2.2.2.2.2.1 x.2.2.1.2.2.2.2.2.2.2.2.2.1 x.2.2.1.2.2.2.2.2.2.2.2.2.2.2.2.1 x.2.2.1.2.2.2.2.2.2.2.2.2.2.2.2.2.1 x.2.2.2.2.2.2.1 x.2.2.2.2.2.2.2.1 x.2.2.2.2.2.2.2.2.1) awM
def Yp(m:M.aN->Int->Option (Int×Int×(List M.da))):an K:={f:=263,sh:=Pj,R:=Int×Int×(List M.da),run:=fun x=>m x.1.1 x.1.2.1,dflt:=default,out:=fun r=>(Sh.enc D (.bQ [.own 0,.any,iq0,iq0]) ((),((),(r.1,(r.2.1,())))),bk.encs D [.tree U.hQ] (r.2.2,()))}
def J6:Cx K:={tl with mode:=dO .plain [(303,.fm),(304,.eV),(305,.eV),(164,.plain),(233,.plain)],fl:=[[some U.hQ],[some U.CodeBlock],[],[]],deep:=fun c=>dS (D.cells c (K.zero c)),J4:=[false,true,false,false],call:=callOf D [afs M.Ec,afu M.Ed,afF M.Ei,we M.iD,Jr M.Js],loop:=dI [(7,afH)]}
theorem afI:aI J6:=aL ay _ (ae aww (ae awz (ae awL (ae zl (ae O4 ak)))))
theorem awO:bg J6 (aW (aY Tryz.f263) 0) afH:=lk (cx:=J6) (sh:=adE) (run:=fun n x=>M.tL x.1.2.1 x.1.2.2.2.2.1 x.1.2.2.2.2.2.1 x.2.1 n x.1.2.2.2.2.2.2.1 x.2.2.1.1 x.2.2.1.2.1 x.2.2.1.2.2.1 x.2.2.1.2.2.2.1 x.2.2.1.2.2.2.2.1 x.2.2.1.2.2.2.2.2.1 x.2.2.1.2.2.2.2.2.2.1 x.2.2.1.2.2.2.2.2.2.2.1 x.2.2.1.2.2.2.2.2.2.2.2.1 x.2.2.1.2.2.2.2.2.2.2.2.2.1 x.2.2.1.2.2.2.2.2.2.2.2.2.2.2.2.1 x.2.2.1.2.2.2.2.2.2.2.2.2.2.2.2.2.1 x.2.2.2.2.2.2.1 x.2.2.2.2.2.2.2.1 x.2.2.2.2.2.2.2.2.1) (bh:=awN) afI (fun m x=>by kernel_rfl) (ae ⟨bX,fun _ _ _=>rfl⟩ (ae ⟨bp,fun _ _ _=>rfl⟩ ak))
theorem arM:ai (Yp (M.Ds)):=aG (cx:=J6) false afI Tryz.func263 (hl1 awO) ⟨⟨[.bQ [.own 0,.any,iq0,iq0]],[.tree U.hQ]⟩,fun x=>(x.1.1.2.2.1,x.1.1.2.2.2.1,x.2.1)⟩ (fun x=>by kernel_rfl)
def afJ(m:M.aO->M.aO->Option Bool):an K:=cB 124 ⟨[.el U.Import,.el U.Import],[]⟩ (fun x=>m x.1.1 x.1.2.1)
theorem awP:ai (afJ (M.Ej)):=aG (cx:=dy) true dA Tryz.func124 hq ⟨zs0,fun x=>x.1.1⟩ (fun x=>by kernel_rfl)
def js(y:Bool⊕Unit){R:Type}(k:KT R):R:=match y with|.inl a0=>kk k Ex.ret zs0 ((a0,()),())|.inr a1=>kk k (Ex.exit 0) zs2 (((),()),())
def jt:List (cC K ((Bool)⊕Unit)):=[⟨Ex.ret,zs0,fun x=>.inl x.1.1⟩,⟨(Ex.exit 0),zs2,fun x=>.inr (())⟩]
def afK:bf K:=bm D false 27 0 [0,1,5] [4] adF (fun x=>M.wE x.1.1 x.1.2.1 af x.1.2.2.1) js
def afL(m:(List M.aO)->(List M.aO)->Option Bool):an K:=cB 70 ⟨[.ah U.Import,.ah U.Import],[]⟩ (fun x=>m x.1.1 x.1.2.1)
def J7:Cx K:=aP [(124,.plain)] [afJ M.Ej] [(4,afK)]
theorem afM:aI J7:=aL ay _ (ae awP ak)
theorem awQ:bg J7 (aW (aY Tryz.f70) 0) afK:=lk (cx:=J7) (sh:=adF) (run:=fun n x=>M.wE x.1.1 x.1.2.1 n x.1.2.2.1) (bh:=jt) afM (fun m x=>by kernel_rfl) (ae ⟨bX,fun _ _ _=>rfl⟩ (ae ⟨bp,fun _ _ _=>rfl⟩ ak))
theorem awR:ai (afL (M.Ek)):=aG (cx:=J7) true afM Tryz.func70 (hl1 awQ) ⟨zs0,fun x=>x.1.1⟩ (fun x=>by kernel_rfl)
def afN(m:M.aE->M.aE->Option Bool):an K:=cB 236 ⟨[.el U.Ins,.el U.Ins],[]⟩ (fun x=>m x.1.1 x.1.2.1)
theorem awS:ai (afN (M.Em)):=aG (cx:=dy) true dA Tryz.func236 hq ⟨zs0,fun x=>x.1.1⟩ (fun x=>by kernel_rfl)
def afO:bf K:=bm D false 27 0 [0,1,5] [4] adG (fun x=>M.wF x.1.1 x.1.2.1 af x.1.2.2.1) js
def afP(m:(List M.aE)->(List M.aE)->Option Bool):an K:=cB 176 ⟨[.ah U.Ins,.ah U.Ins],[]⟩ (fun x=>m x.1.1 x.1.2.1)
def J8:Cx K:=aP [(236,.plain)] [afN M.Em] [(4,afO)]
theorem afQ:aI J8:=aL ay _ (ae awS ak)
theorem awT:bg J8 (aW (aY Tryz.f176) 0) afO:=lk (cx:=J8) (sh:=adG) (run:=fun n x=>M.wF x.1.1 x.1.2.1 n x.1.2.2.1) (bh:=jt) afQ (fun m x=>by kernel_rfl) (ae ⟨bX,fun _ _ _=>rfl⟩ (ae ⟨bp,fun _ _ _=>rfl⟩ ak))
theorem awU:ai (afP (M.En)):=aG (cx:=J8) true afQ Tryz.func176 (hl1 awT) ⟨zs0,fun x=>x.1.1⟩ (fun x=>by kernel_rfl)
def afR(m:M.av->M.av->Option Bool):an K:=cB 125 ⟨[.el U.Core,.el U.Core],[]⟩ (fun x=>m x.1.1 x.1.2.1)
def afS:Cx K:=aP [(176,.plain)] [afP M.En] []
theorem awV:aI afS:=aL ay _ (ae awU ak)
theorem awW:ai (afR (M.Eo)):=aG (cx:=afS) true awV Tryz.func125 hq ⟨zs0,fun x=>x.1.1⟩ (fun x=>by kernel_rfl)
def afT:bf K:=bm D false 27 0 [0,1,5] [4] adH (fun x=>M.wG x.1.1 x.1.2.1 af x.1.2.2.1) js
def afU(m:(List M.av)->(List M.av)->Option Bool):an K:=cB 71 ⟨[.ah U.Core,.ah U.Core],[]⟩ (fun x=>m x.1.1 x.1.2.1)
def J9:Cx K:=aP [(125,.plain)] [afR M.Eo] [(4,afT)]
theorem afV:aI J9:=aL ay _ (ae awW ak)
theorem awX:bg J9 (aW (aY Tryz.f71) 0) afT:=lk (cx:=J9) (sh:=adH) (run:=fun n x=>M.wG x.1.1 x.1.2.1 n x.1.2.2.1) (bh:=jt) afV (fun m x=>by kernel_rfl) (ae ⟨bX,fun _ _ _=>rfl⟩ (ae ⟨bp,fun _ _ _=>rfl⟩ ak))
theorem awY:ai (afU (M.Ep)):=aG (cx:=J9) true afV Tryz.func71 (hl1 awX) ⟨zs0,fun x=>x.1.1⟩ (fun x=>by kernel_rfl)
def XV(m:M.aN->M.aN->Option Bool):an K:=cB 32 ⟨[.el U.Module,.el U.Module],[]⟩ (fun x=>m x.1.1 x.1.2.1)
def afW:Cx K:=aP [(70,.plain),(71,.plain)] [afL M.Ek,afU M.Ep] []
theorem awZ:aI afW:=aL ay _ (ae awR (ae awY ak))
theorem arq:ai (XV (M.Dk)):=aG (cx:=afW) true awZ Tryz.func32 hq ⟨zs0,fun x=>x.1.1⟩ (fun x=>by kernel_rfl)
def afX:bf K:=bm D false 28 0 [0,1,5] [1,4] JJ (fun x=>M.wH x.1.1 af x.1.2.1 x.1.2.2.1) pK
def PE(m:(List (List UInt8))->Int->Option Int):an K:=cI 82 Jk (fun x=>m x.1.1 x.1.2.1)
def Ko:Cx K:=aP [] [] [(5,afX)]
theorem afY:aI Ko:=aL ay _ ak
theorem aw0:bg Ko (aW (aY Tryz.f82) 0) afX:=lk (cx:=Ko) (sh:=JJ) (run:=fun n x=>M.wH x.1.1 n x.1.2.1 x.1.2.2.1) (bh:=pL) afY (fun m x=>by kernel_rfl) (ae ⟨bX,fun _ _ _=>rfl⟩ (ae ⟨bp,fun _ _ _=>rfl⟩ ak))
theorem afZ:ai (PE (M.wI)):=aG (cx:=Ko) true afY Tryz.func82 (hl1 aw0) ⟨zs1,fun x=>x.1.1⟩ (fun x=>by kernel_rfl)
def nC(m:M.aa->Int->Option Int):an K:=cI 240 Ih (fun x=>m x.1.1 x.1.2.1)
def af0(dY:M.aa->Int->Option Int):bf K:=bm D false 27 0 [0,1,5] [1,4] adI (fun x=>M.wJ dY x.1.1 af x.1.2.1 x.1.2.2.1) pK
def af1(m:(List M.aa)->Int->Option Int):an K:=cI 281 adm (fun x=>m x.1.1 x.1.2.1)
def Kp(dY:M.aa->Int->Option Int):Cx K:=aP [(240,.plain)] [nC dY] [(5,af0 dY)]
theorem af2(dY:M.aa->Int->Option Int)(pO:ai (nC dY)):aI (Kp dY):=aL ay _ (ae pO ak)
theorem aw1(dY:M.aa->Int->Option Int)(pO:ai (nC dY)):bg (Kp dY) (aW (aY Tryz.f281) 0) (af0 dY):=lk (cx:=Kp dY) (sh:=adI) (run:=fun n x=>M.wJ dY x.1.1 n x.1.2.1 x.1.2.2.1) (bh:=pL) (af2 dY pO) (fun m x=>by kernel_rfl) (ae ⟨bX,fun _ _ _=>rfl⟩ (ae ⟨bp,fun _ _ _=>rfl⟩ ak))
theorem aw2(dY:M.aa->Int->Option Int)(pO:ai (nC dY)):ai (af1 (M.Es dY)):=fq (cx:=Kp dY) (fz:=true) ay (af2 dY pO) cM ⟨Tryz.func281,by kernel_rfl⟩ (hl1 (aw1 dY pO)) ⟨zs1,fun x=>x.1.1⟩ (fun x=>rfl) (fun x=>by kernel_rfl)
def af4(dY:M.aa->Int->Option Int):Cx K:=aP [(82,.plain),(281,.plain)] [PE M.wI,af1 (M.Es dY)] []
theorem aw3(dY:M.aa->Int->Option Int)(pO:ai (nC dY)):aI (af4 dY):=aL ay _ (ae afZ (ae (aw2 dY pO) ak))
theorem aw4(dY:M.aa->Int->Option Int)(pO:ai (nC dY)):ai (nC (M.Kq dY)):=fq (cx:=af4 dY) (fz:=true) ay (aw3 dY pO) cM ⟨Tryz.func240,by kernel_rfl⟩ hq ⟨zs1,fun x=>x.1.1⟩ (fun x=>rfl) (fun x=>by kernel_rfl)
theorem af5:∀n,ai (nC (M.wK n))|0=>iG fun _=>rfl|n+1=>aw4 (M.wK n) (af5 n)
theorem af6:ai (nC (M.zt)):=af5 af
def af7:bf K:=bm D false 26 0 [0,1,5] [4] JK (fun x=>M.wL x.1.1 x.1.2.1 af x.1.2.2.1) js
def PG(m:(List (List UInt8))->(List (List UInt8))->Option Bool):an K:=cB 122 ⟨[.ah U.str,.ah U.str],[]⟩ (fun x=>m x.1.1 x.1.2.1)
def Kr:Cx K:=aP [] [] [(4,af7)]
theorem af8:aI Kr:=aL ay _ ak
theorem aw5:bg Kr (aW (aY Tryz.f122) 0) af7:=lk (cx:=Kr) (sh:=JK) (run:=fun n x=>M.wL x.1.1 x.1.2.1 n x.1.2.2.1) (bh:=jt) af8 (fun m x=>by kernel_rfl) (ae ⟨bX,fun _ _ _=>rfl⟩ (ae ⟨bp,fun _ _ _=>rfl⟩ ak))
theorem af9:ai (PG (M.wM)):=aG (cx:=Kr) true af8 Tryz.func122 (hl1 aw5) ⟨zs0,fun x=>x.1.1⟩ (fun x=>by kernel_rfl)
def nD(m:M.aa->M.aa->Option Bool):an K:=cB 279 ⟨[.el U.Type,.el U.Type],[]⟩ (fun x=>m x.1.1 x.1.2.1)
def aga(dZ:M.aa->M.aa->Option Bool):bf K:=bm D false 27 0 [0,1,5] [4] adJ (fun x=>M.wN dZ x.1.1 x.1.2.1 af x.1.2.2.1) js
def agb(m:(List M.aa)->(List M.aa)->Option Bool):an K:=cB 314 ⟨[.ah U.Type,.ah U.Type],[]⟩ (fun x=>m x.1.1 x.1.2.1)
def Ks(dZ:M.aa->M.aa->Option Bool):Cx K:=aP [(279,.plain)] [nD dZ] [(4,aga dZ)]
theorem agc(dZ:M.aa->M.aa->Option Bool)(pP:ai (nD dZ)):aI (Ks dZ):=aL ay _ (ae pP ak)
theorem aw6(dZ:M.aa->M.aa->Option Bool)(pP:ai (nD dZ)):bg (Ks dZ) (aW (aY Tryz.f314) 0) (aga dZ):=lk (cx:=Ks dZ) (sh:=adJ) (run:=fun n x=>M.wN dZ x.1.1 x.1.2.1 n x.1.2.2.1) (bh:=jt) (agc dZ pP) (fun m x=>by kernel_rfl) (ae ⟨bX,fun _ _ _=>rfl⟩ (ae ⟨bp,fun _ _ _=>rfl⟩ ak))
theorem aw7(dZ:M.aa->M.aa->Option Bool)(pP:ai (nD dZ)):ai (agb (M.Et dZ)):=fq (cx:=Ks dZ) (fz:=true) ay (agc dZ pP) cM ⟨Tryz.func314,by kernel_rfl⟩ (hl1 (aw6 dZ pP)) ⟨zs0,fun x=>x.1.1⟩ (fun x=>rfl) (fun x=>by kernel_rfl)
def agd(dZ:M.aa->M.aa->Option Bool):Cx K:=aP [(122,.plain),(314,.plain)] [PG M.wM,agb (M.Et dZ)] []
theorem aw8(dZ:M.aa->M.aa->Option Bool)(pP:ai (nD dZ)):aI (agd dZ):=aL ay _ (ae af9 (ae (aw7 dZ pP) ak))
theorem aw9(dZ:M.aa->M.aa->Option Bool)(pP:ai (nD dZ)):ai (nD (M.Kt dZ)):=fq (cx:=agd dZ) (fz:=true) ay (aw8 dZ pP) cM ⟨Tryz.func279,by kernel_rfl⟩ hq ⟨zs0,fun x=>x.1.1⟩ (fun x=>rfl) (fun x=>by kernel_rfl)
theorem age:∀n,ai (nD (M.wO n))|0=>iG fun _=>rfl|n+1=>aw9 (M.wO n) (age n)
theorem agf:ai (nD (M.zu)):=age af
def tM(m:M.aa->Int->Option (Int×Int)):an K:={f:=282,sh:=Ih,R:=Int×Int,run:=fun x=>m x.1.1 x.1.2.1,dflt:=default,out:=fun r=>(Sh.enc D (.bQ [iq0,iq0]) (r.1,(r.2,())),bk.encs D [] ())}
def Oj(m:Int->Int->Option Int):an K:=cI 315 JL (fun x=>m x.1.1 x.1.2.1)
theorem Wp:ai (Oj (M.nr)):=aG (cx:=dy) true dA Tryz.func315 hq ⟨zs1,fun x=>x.1.1⟩ (fun x=>by kernel_rfl)
def axa(y:(Int×Int)⊕(Int×Int)){R:Type}(k:KT R):R:=match y with|.inl a0=>kk k Ex.ret adK (((),((),(a0.1,(a0.2,())))),((),()))|.inr a1=>kk k (Ex.exit 0) adL ((a1.1,(a1.2,((),((),())))),((),()))
def axb:List (cC K ((Int×Int)⊕(Int×Int))):=[⟨Ex.ret,adK,fun x=>.inl (x.1.2.2.1,x.1.2.2.2.1)⟩,⟨(Ex.exit 0),adL,fun x=>.inr ((x.1.1,x.1.2.1))⟩]
def agh(fR:M.aa->Int->Option (Int×Int)):bf K:=bm D false 48 1 [1,2,6,7,8] [6,7,4,5] adM (fun x=>M.tN fR x.1.1 af x.1.2.2.1 x.1.2.2.2.1 x.1.2.2.2.2.1 x.2.1) axa
def Ku(fR:M.aa->Int->Option (Int×Int)):Cx K:=aP [(282,.plain),(315,.plain)] [tM fR,Oj M.nr] [(6,agh fR)]
theorem agi(fR:M.aa->Int->Option (Int×Int))(zw:ai (tM fR)):aI (Ku fR):=aL ay _ (ae zw (ae Wp ak))
theorem axc(fR:M.aa->Int->Option (Int×Int))(zw:ai (tM fR)):bg (Ku fR) (aW (aY Tryz.f282) 0) (agh fR):=lk (cx:=Ku fR) (sh:=adM) (run:=fun n x=>M.tN fR x.1.1 n x.1.2.2.1 x.1.2.2.2.1 x.1.2.2.2.2.1 x.2.1) (bh:=axb) (agi fR zw) (fun m x=>by kernel_rfl) (ae ⟨bX,fun _ _ _=>rfl⟩ (ae ⟨bp,fun _ _ _=>rfl⟩ ak))
theorem axd(fR:M.aa->Int->Option (Int×Int))(zw:ai (tM fR)):ai (tM (M.Kv fR)):=fq (cx:=Ku fR) (fz:=true) ay (agi fR zw) cM ⟨Tryz.func282,by kernel_rfl⟩ (hl1 (axc fR zw)) ⟨C3,fun x=>(x.1.1.1,x.1.1.2.1)⟩ (fun x=>rfl) (fun x=>by kernel_rfl)
theorem agj:∀n,ai (tM (M.tO n))|0=>iG fun _=>rfl|n+1=>axd (M.tO n) (agj n)
theorem axe:ai (tM (M.Kw)):=agj af
def pz(m:Int->Int->Int->Option Bool):an K:=cB 89 ⟨[iq0,iq0,iq0],[]⟩ (fun x=>m x.1.1 x.1.2.1 x.1.2.2.1)
theorem qN:ai (pz (M.pA)):=aG (cx:=dy) true dA Tryz.func89 hq ⟨zs0,fun x=>x.1.1⟩ (fun x=>by kernel_rfl)
def agk:bf K:=bm D false 69 0 [0,3] [2] JG (fun x=>M.wP x.1.1 af x.1.2.1) js
def yW(m:(List UInt8)->Option Bool):an K:=cB 86 cH (fun x=>m x.1.1)
def Kx:Cx K:=aP [] [] [(4,agk)]
theorem agl:aI Kx:=aL ay _ ak
theorem axf:bg Kx (aW (aY Tryz.f86) 0) agk:=lk (cx:=Kx) (sh:=JG) (run:=fun n x=>M.wP x.1.1 n x.1.2.1) (bh:=jt) agl (fun m x=>by kernel_rfl) (ae ⟨bX,fun _ _ _=>rfl⟩ (ae ⟨bp,fun _ _ _=>rfl⟩ ak))
theorem C6:ai (yW (M.kf)):=aG (cx:=Kx) true agl Tryz.func86 (hl1 axf) ⟨zs0,fun x=>x.1.1⟩ (fun x=>by kernel_rfl)
def axg(y:Bool⊕((List (List UInt8))×Int)){R:Type}(k:KT R):R:=match y with|.inl a0=>kk k Ex.ret yT (((),((),(a0,()))),())|.inr a1=>kk k (Ex.exit 2) ⟨[.ah U.str,iq0,.any],[]⟩ ((a1.1,(a1.2,((),()))),())
def axh:List (cC K ((Bool)⊕((List (List UInt8))×Int))):=[⟨Ex.ret,yT,fun x=>.inl x.1.2.2.1⟩,⟨(Ex.exit 2),⟨[.ah U.str,iq0,.any],[]⟩,fun x=>.inr ((x.1.1,x.1.2.1))⟩]
def agm:bf K:=bm D false 39 0 [0,3,4] [0,3,2] JJ (fun x=>M.tP x.1.1 x.1.2.1 af x.1.2.2.1) axg
def agn:bf K:=bm D false 39 0 [0,3] [2] Jk (fun x=>M.qU af x.1.1 x.1.2.1) js
def agp(m:(List (List UInt8))->Option Bool):an K:=cB 363 pD (fun x=>m x.1.1)
def zx:Cx K:=aP [(86,.plain)] [yW M.kf] [(9,agm),(4,agn)]
theorem PH:aI zx:=aL ay _ (ae C6 ak)
theorem axi:bg zx (aW (aW (aY Tryz.f363) 0) 0) agm:=lk (cx:=zx) (sh:=JJ) (run:=fun n x=>M.tP x.1.1 x.1.2.1 n x.1.2.2.1) (bh:=axh) PH (fun m x=>by kernel_rfl) (ae ⟨bX,fun _ _ _=>rfl⟩ (ae ⟨bp,fun _ _ _=>rfl⟩ ak))
theorem axj:bg zx (aW (aY Tryz.f363) 0) agn:=lk (cx:=zx) (sh:=Jk) (run:=fun n x=>M.qU n x.1.1 x.1.2.1) (bh:=jt) PH (fun m x=>by kernel_rfl) (ae ⟨bX,fun _ _ _=>rfl⟩ (ae ⟨bp,fun _ _ _=>rfl⟩ ak)) (hl:=(mG 1 (by kernel_rfl) (ns (.mk (by kernel_rfl) axi))))
theorem axk:ai (agp (M.Eu)):=aG (cx:=zx) true PH Tryz.func363 (hl1 axj) ⟨zs0,fun x=>x.1.1⟩ (fun x=>by kernel_rfl)
def sB(y:Bool⊕Unit){R:Type}(k:KT R):R:=match y with|.inl a0=>kk k Ex.ret JE ((a0,()),((),()))|.inr a1=>kk k (Ex.exit 0) yP (((),()),((),()))
def sC:List (cC K ((Bool)⊕Unit)):=[⟨Ex.ret,JE,fun x=>.inl x.1.1⟩,⟨(Ex.exit 0),yP,fun x=>.inr (())⟩]
def agq:bf K:=bm D false 18 1 [1,3] [2] JM (fun x=>M.pQ af x.1.2.1 x.2.1) sB
def agr(m:M.aa->Option Bool):an K:=cB 364 zs7 (fun x=>m x.1.1)
def Ky:Cx K:=aP [] [] [(2,agq)]
theorem ags:aI Ky:=aL ay _ ak
theorem axl:bg Ky (aW (aY Tryz.f364) 0) agq:=lk (cx:=Ky) (sh:=JM) (run:=fun n x=>M.pQ n x.1.2.1 x.2.1) (bh:=sC) ags (fun m x=>by kernel_rfl) (ae ⟨bX,fun _ _ _=>rfl⟩ (ae ⟨bp,fun _ _ _=>rfl⟩ ak))
theorem axm:ai (agr (M.wQ)):=aG (cx:=Ky) true ags Tryz.func364 (hl1 axl) ⟨zs0,fun x=>x.1.1⟩ (fun x=>by kernel_rfl)
def pR(m:M.aa->Int->Int->Option Bool):an K:=cB 183 ⟨[.el U.Type,iq0,iq0],[]⟩ (fun x=>m x.1.1 x.1.2.1 x.1.2.2.1)
def agt(fS:M.aa->Int->Int->Option Bool):bf K:=bm D false 28 1 [1,2,3,7] [6] adN (fun x=>M.pS fS x.1.1 x.1.2.1 af x.1.2.2.2.1 x.2.1) sB
def Kz(fS:M.aa->Int->Int->Option Bool):Cx K:=aP [(89,.plain),(183,.plain)] [pz M.pA,pR fS] [(4,agt fS)]
theorem agu(fS:M.aa->Int->Int->Option Bool)(zy:ai (pR fS)):aI (Kz fS):=aL ay _ (ae qN (ae zy ak))
theorem axn(fS:M.aa->Int->Int->Option Bool)(zy:ai (pR fS)):bg (Kz fS) (aW (aY Tryz.f183) 0) (agt fS):=lk (cx:=Kz fS) (sh:=adN) (run:=fun n x=>M.pS fS x.1.1 x.1.2.1 n x.1.2.2.2.1 x.2.1) (bh:=sC) (agu fS zy) (fun m x=>by kernel_rfl) (ae ⟨bX,fun _ _ _=>rfl⟩ (ae ⟨bp,fun _ _ _=>rfl⟩ ak))
theorem axo(fS:M.aa->Int->Int->Option Bool)(zy:ai (pR fS)):ai (pR (M.KA fS)):=fq (cx:=Kz fS) (fz:=true) ay (agu fS zy) cM ⟨Tryz.func183,by kernel_rfl⟩ (hl1 (axn fS zy)) ⟨zs0,fun x=>x.1.1⟩ (fun x=>rfl) (fun x=>by kernel_rfl)
theorem agv:∀n,ai (pR (M.mc n))|0=>iG fun _=>rfl|n+1=>axo (M.mc n) (agv n)
theorem PI:ai (pR (M.ki)):=agv af
def agw(m:M.aa->Option Bool):an K:=cB 316 zs7 (fun x=>m x.1.1)
def agx:Cx K:=aP [(89,.plain),(86,.plain),(363,.plain),(364,.plain),(183,.plain)] [pz M.pA,yW M.kf,agp M.Eu,agr M.wQ,pR M.ki] []
theorem axp:aI agx:=aL ay _ (ae qN (ae C6 (ae axk (ae axm (ae PI ak)))))
theorem axq:ai (agw (M.Ew)):=aG (cx:=agx) true axp Tryz.func316 hq ⟨zs0,fun x=>x.1.1⟩ (fun x=>by kernel_rfl)
def tQ(m:M.aa->Option Bool):an K:=cB 283 zs7 (fun x=>m x.1.1)
def agy(fU:M.aa->Option Bool):bf K:=bm D false 21 1 [1,3] [2] JM (fun x=>M.pT fU af x.1.2.1 x.2.1) sB
def KB(fU:M.aa->Option Bool):Cx K:=aP [(316,.plain),(283,.plain)] [agw M.Ew,tQ fU] [(4,agy fU)]
theorem agz(fU:M.aa->Option Bool)(zz:ai (tQ fU)):aI (KB fU):=aL ay _ (ae axq (ae zz ak))
theorem axr(fU:M.aa->Option Bool)(zz:ai (tQ fU)):bg (KB fU) (aW (aY Tryz.f283) 0) (agy fU):=lk (cx:=KB fU) (sh:=JM) (run:=fun n x=>M.pT fU n x.1.2.1 x.2.1) (bh:=sC) (agz fU zz) (fun m x=>by kernel_rfl) (ae ⟨bX,fun _ _ _=>rfl⟩ (ae ⟨bp,fun _ _ _=>rfl⟩ ak))
theorem axs(fU:M.aa->Option Bool)(zz:ai (tQ fU)):ai (tQ (M.KC fU)):=fq (cx:=KB fU) (fz:=true) ay (agz fU zz) cM ⟨Tryz.func283,by kernel_rfl⟩ (hl1 (axr fU zz)) ⟨zs0,fun x=>x.1.1⟩ (fun x=>rfl) (fun x=>by kernel_rfl)
theorem agA:∀n,ai (tQ (M.pU n))|0=>iG fun _=>rfl|n+1=>axs (M.pU n) (agA n)
theorem axt:ai (tQ (M.KD)):=agA af
def tR(m:M.aa->Int->Option Int):an K:=cI 299 Ih (fun x=>m x.1.1 x.1.2.1)
def agB(y:Int){R:Type}(k:KT R):R:=match y with|a0=>kk k (Ex.exit 0) zs1 ((a0,()),())
def agC:List (cC K Int):=[⟨(Ex.exit 0),zs1,fun x=>x.1.1⟩]
def agD(gd:M.aa->Int->Option Int):bf K:=bm D false 26 0 [1,5,11,12,13] [5] adO (fun x=>M.tU gd x.1.1 x.1.2.2.1 x.1.2.2.2.1 af x.1.2.1 x.1.2.2.2.2.1) agB
def KE(gd:M.aa->Int->Option Int):Cx K:=aP [(299,.plain)] [tR gd] [(5,agD gd)]
theorem agE(gd:M.aa->Int->Option Int)(zA:ai (tR gd)):aI (KE gd):=aL ay _ (ae zA ak)
theorem axu(gd:M.aa->Int->Option Int)(zA:ai (tR gd)):bg (KE gd) (aW (aY Tryz.f299) 0) (agD gd):=lk (cx:=KE gd) (sh:=adO) (run:=fun n x=>M.tU gd x.1.1 x.1.2.2.1 x.1.2.2.2.1 n x.1.2.1 x.1.2.2.2.2.1) (bh:=agC) (agE gd zA) (fun m x=>by kernel_rfl) (ae ⟨bp,fun _ _ _=>rfl⟩ ak)
theorem axv(gd:M.aa->Int->Option Int)(zA:ai (tR gd)):ai (tR (M.KF gd)):=fq (cx:=KE gd) (fz:=true) ay (agE gd zA) cM ⟨Tryz.func299,by kernel_rfl⟩ (hl1 (axu gd zA)) ⟨zs1,fun x=>x.1.1⟩ (fun x=>rfl) (fun x=>by kernel_rfl)
theorem agF:∀n,ai (tR (M.tV n))|0=>iG fun _=>rfl|n+1=>axv (M.tV n) (agF n)
theorem axw:ai (tR (M.KG)):=agF af
def tW(m:M.aa->Option Int):an K:=cI 300 zs7 (fun x=>m x.1.1)
def agG(gh:M.aa->Option Int):bf K:=bm D false 19 0 [3,7,8,9] [3] adP (fun x=>M.tX gh x.1.2.1 x.1.2.2.1 af x.1.1 x.1.2.2.2.1) agB
def KH(gh:M.aa->Option Int):Cx K:=aP [(300,.plain)] [tW gh] [(3,agG gh)]
theorem agH(gh:M.aa->Option Int)(zB:ai (tW gh)):aI (KH gh):=aL ay _ (ae zB ak)
theorem axx(gh:M.aa->Option Int)(zB:ai (tW gh)):bg (KH gh) (aW (aY Tryz.f300) 0) (agG gh):=lk (cx:=KH gh) (sh:=adP) (run:=fun n x=>M.tX gh x.1.2.1 x.1.2.2.1 n x.1.1 x.1.2.2.2.1) (bh:=agC) (agH gh zB) (fun m x=>by kernel_rfl) (ae ⟨bp,fun _ _ _=>rfl⟩ ak)
theorem axy(gh:M.aa->Option Int)(zB:ai (tW gh)):ai (tW (M.KI gh)):=fq (cx:=KH gh) (fz:=true) ay (agH gh zB) cM ⟨Tryz.func300,by kernel_rfl⟩ (hl1 (axx gh zB)) ⟨zs1,fun x=>x.1.1⟩ (fun x=>rfl) (fun x=>by kernel_rfl)
theorem agI:∀n,ai (tW (M.tY n))|0=>iG fun _=>rfl|n+1=>axy (M.tY n) (agI n)
theorem axz:ai (tW (M.KJ)):=agI af
def lI(m:M.aa->Option Bool):an K:=cB 301 zs7 (fun x=>m x.1.1)
def agJ(m:M.aa->Option Bool):an K:=cB 338 zs7 (fun x=>m x.1.1)
def agK(cK:M.aa->Option Bool):Cx K:=aP [(301,.plain)] [lI cK] []
theorem axA(cK:M.aa->Option Bool)(jx:ai (lI cK)):aI (agK cK):=aL ay _ (ae jx ak)
theorem axB(cK:M.aa->Option Bool)(jx:ai (lI cK)):ai (agJ (M.Ey cK)):=fq (cx:=agK cK) (fz:=true) ay (axA cK jx) cM ⟨Tryz.func338,by kernel_rfl⟩ hq ⟨zs0,fun x=>x.1.1⟩ (fun x=>rfl) (fun x=>by kernel_rfl)
def agL(cK:M.aa->Option Bool):bf K:=bm D false 19 0 [0,1,7,8] [4] adQ (fun x=>M.wR cK x.1.1 x.1.2.2.1 af x.1.2.2.2.1) jd
def agM(m:(List M.aa)->Option Int):an K:=cI 260 ⟨[.ah U.Type,.fn 338 []],[]⟩ (fun x=>m x.1.1)
def KL(cK:M.aa->Option Bool):Cx K:=aP [(338,.plain)] [agJ (M.Ey cK)] [(2,agL cK)]
theorem agN(cK:M.aa->Option Bool)(jx:ai (lI cK)):aI (KL cK):=aL ay _ (ae (axB cK jx) ak)
theorem axC(cK:M.aa->Option Bool)(jx:ai (lI cK)):bg (KL cK) (aW (aY Tryz.f260) 0) (agL cK):=lk (cx:=KL cK) (sh:=adQ) (run:=fun n x=>M.wR cK x.1.1 x.1.2.2.1 n x.1.2.2.2.1) (bh:=je) (agN cK jx) (fun m x=>by kernel_rfl) (ae ⟨bX,fun _ _ _=>rfl⟩ (ae ⟨bp,fun _ _ _=>rfl⟩ ak))
theorem axD(cK:M.aa->Option Bool)(jx:ai (lI cK)):ai (agM (M.KN cK)):=fq (cx:=KL cK) (fz:=true) ay (agN cK jx) cM ⟨Tryz.func260,by kernel_rfl⟩ (hl1 (axC cK jx)) ⟨zs1,fun x=>x.1.1⟩ (fun x=>rfl) (fun x=>by kernel_rfl)
def agO(m:(List M.aa)->Option Bool):an K:=cB 208 ⟨[.ah U.Type,.fn 338 []],[]⟩ (fun x=>m x.1.1)
def agP(cK:M.aa->Option Bool):Cx K:=aP [(260,.plain)] [agM (M.KN cK)] []
theorem axE(cK:M.aa->Option Bool)(jx:ai (lI cK)):aI (agP cK):=aL ay _ (ae (axD cK jx) ak)
theorem axF(cK:M.aa->Option Bool)(jx:ai (lI cK)):ai (agO (M.zC cK)):=fq (cx:=agP cK) (fz:=true) ay (axE cK jx) cM ⟨Tryz.func208,by kernel_rfl⟩ hq ⟨zs0,fun x=>x.1.1⟩ (fun x=>rfl) (fun x=>by kernel_rfl)
def lA(m:Int->Int->Int->Option Bool):an K:=cB 77 ⟨[iq0,iq0,iq0],[]⟩ (fun x=>m x.1.1 x.1.2.1 x.1.2.2.1)
theorem l9:ai (lA (M.lB)):=aG (cx:=dy) true dA Tryz.func77 hq ⟨zs0,fun x=>x.1.1⟩ (fun x=>by kernel_rfl)
def I6(m:(List (List UInt8))->Option Int):an K:=cI 161 pD (fun x=>m x.1.1)
theorem OY:ai (I6 (M.I7)):=aG (cx:=dy) true dA Tryz.func161 hq ⟨zs1,fun x=>x.1.1⟩ (fun x=>by kernel_rfl)
def agQ:bf K:=bm D false 75 0 [0,7,8] [0,2] IU (fun x=>M.tZ x.1.1 x.1.2.1 af x.1.2.2.1) Oy
def zg(m:(List UInt8)->Option Bool):an K:=cB 103 cH (fun x=>m x.1.1)
def KO:Cx K:=aP [] [] [(2,agQ)]
theorem agR:aI KO:=aL ay _ ak
theorem axG:bg KO (aW (aY Tryz.f103) 0) agQ:=lk (cx:=KO) (sh:=IU) (run:=fun n x=>M.tZ x.1.1 x.1.2.1 n x.1.2.2.1) (bh:=OC) agR (fun m x=>by kernel_rfl) (ae ⟨bX,fun _ _ _=>rfl⟩ (ae ⟨bp,fun _ _ _=>rfl⟩ ak))
theorem Dx:ai (zg (M.kg)):=aG (cx:=KO) true agR Tryz.func103 (hl1 axG) ⟨zs0,fun x=>x.1.1⟩ (fun x=>by kernel_rfl)
def agS(m:(List UInt8)->Option Bool):an K:=cB 378 cH (fun x=>m x.1.1)
def PK:Cx K:=aP [(103,.plain)] [zg M.kg] []
theorem agT:aI PK:=aL ay _ (ae Dx ak)
theorem axH:ai (agS (M.Ez)):=aG (cx:=PK) true agT Tryz.func378 hq ⟨zs0,fun x=>x.1.1⟩ (fun x=>by kernel_rfl)
def agU:bf K:=bm D false 19 0 [0,1,7,8] [4] adR (fun x=>M.wS x.1.1 x.1.2.2.1 af x.1.2.2.2.1) jd
def agV(m:(List (List UInt8))->Option Int):an K:=cI 255 ⟨[.ah U.str,.fn 378 []],[]⟩ (fun x=>m x.1.1)
def KP:Cx K:=aP [(378,.plain)] [agS M.Ez] [(2,agU)]
theorem agW:aI KP:=aL ay _ (ae axH ak)
theorem axI:bg KP (aW (aY Tryz.f255) 0) agU:=lk (cx:=KP) (sh:=adR) (run:=fun n x=>M.wS x.1.1 x.1.2.2.1 n x.1.2.2.2.1) (bh:=je) agW (fun m x=>by kernel_rfl) (ae ⟨bX,fun _ _ _=>rfl⟩ (ae ⟨bp,fun _ _ _=>rfl⟩ ak))
theorem axJ:ai (agV (M.KQ)):=aG (cx:=KP) true agW Tryz.func255 (hl1 axI) ⟨zs1,fun x=>x.1.1⟩ (fun x=>by kernel_rfl)
def agX(m:(List (List UInt8))->Option Bool):an K:=cB 201 ⟨[.ah U.str,.fn 378 []],[]⟩ (fun x=>m x.1.1)
def agY:Cx K:=aP [(255,.plain)] [agV M.KQ] []
theorem axK:aI agY:=aL ay _ (ae axJ ak)
theorem axL:ai (agX (M.EA)):=aG (cx:=agY) true axK Tryz.func201 hq ⟨zs0,fun x=>x.1.1⟩ (fun x=>by kernel_rfl)
def agZ(m:(List (List UInt8))->Option Bool):an K:=cB 339 pD (fun x=>m x.1.1)
def ag0:Cx K:=aP [(161,.plain),(77,.plain),(160,.plain),(201,.plain)] [I6 M.I7,lA M.lB,yZ M.lC,agX M.EA] []
theorem axM:aI ag0:=aL ay _ (ae OY (ae l9 (ae Il (ae axL ak))))
theorem axN:ai (agZ (M.EB)):=aG (cx:=ag0) true axM Tryz.func339 hq ⟨zs0,fun x=>x.1.1⟩ (fun x=>by kernel_rfl)
def I3(m:(List M.aa)->Option Int):an K:=cI 269 ma (fun x=>m x.1.1)
theorem OW:ai (I3 (M.I4)):=aG (cx:=dy) true dA Tryz.func269 hq ⟨zs1,fun x=>x.1.1⟩ (fun x=>by kernel_rfl)
def IG(m:M.aa->Option Bool):an K:=cB 217 zs7 (fun x=>m x.1.1)
theorem OL:ai (IG (M.IH)):=aG (cx:=dy) true dA Tryz.func217 hq ⟨zs0,fun x=>x.1.1⟩ (fun x=>by kernel_rfl)
def ag1:bf K:=bm D false 19 0 [0,1,7,8] [4] adS (fun x=>M.wT x.1.1 x.1.2.2.1 af x.1.2.2.2.1) jd
def ag2(m:(List M.aa)->Option Int):an K:=cI 260 ⟨[.ah U.Type,.fn 217 []],[]⟩ (fun x=>m x.1.1)
def KR:Cx K:=aP [(217,.plain)] [IG M.IH] [(2,ag1)]
theorem ag3:aI KR:=aL ay _ (ae OL ak)
theorem axO:bg KR (aW (aY Tryz.f260) 0) ag1:=lk (cx:=KR) (sh:=adS) (run:=fun n x=>M.wT x.1.1 x.1.2.2.1 n x.1.2.2.2.1) (bh:=je) ag3 (fun m x=>by kernel_rfl) (ae ⟨bX,fun _ _ _=>rfl⟩ (ae ⟨bp,fun _ _ _=>rfl⟩ ak))
theorem axP:ai (ag2 (M.KU)):=aG (cx:=KR) true ag3 Tryz.func260 (hl1 axO) ⟨zs1,fun x=>x.1.1⟩ (fun x=>by kernel_rfl)
def ag4(m:(List M.aa)->Option Bool):an K:=cB 208 ⟨[.ah U.Type,.fn 217 []],[]⟩ (fun x=>m x.1.1)
def ag5:Cx K:=aP [(260,.plain)] [ag2 M.KU] []
theorem axQ:aI ag5:=aL ay _ (ae axP ak)
theorem axR:ai (ag4 (M.EC)):=aG (cx:=ag5) true axQ Tryz.func208 hq ⟨zs0,fun x=>x.1.1⟩ (fun x=>by kernel_rfl)
def ag6(m:M.aa->Int->Option Bool):an K:=cB 340 Ih (fun x=>m x.1.1 x.1.2.1)
def ag7:Cx K:=aP [(269,.plain),(208,.plain)] [I3 M.I4,ag4 M.EC] []
theorem axS:aI ag7:=aL ay _ (ae OW (ae axR ak))
theorem axT:ai (ag6 (M.ua)):=aG (cx:=ag7) true axS Tryz.func340 hq ⟨zs0,fun x=>x.1.1⟩ (fun x=>by kernel_rfl)
def ag8:bf K:=bm D false 19 0 [0,1,7,8] [4] adT (fun x=>M.wU x.1.1 x.1.2.1 x.1.2.2.1 af x.1.2.2.2.1) jd
def ag9(m:(List Int)->Int->Option Int):an K:=cI 302 ⟨[.ah U.i64,iq0],[]⟩ (fun x=>m x.1.1 x.1.2.1)
def KV:Cx K:=aP [] [] [(2,ag8)]
theorem aha:aI KV:=aL ay _ ak
theorem axU:bg KV (aW (aY Tryz.f302) 0) ag8:=lk (cx:=KV) (sh:=adT) (run:=fun n x=>M.wU x.1.1 x.1.2.1 x.1.2.2.1 n x.1.2.2.2.1) (bh:=je) aha (fun m x=>by kernel_rfl) (ae ⟨bX,fun _ _ _=>rfl⟩ (ae ⟨bp,fun _ _ _=>rfl⟩ ak))
theorem axV:ai (ag9 (M.KW)):=aG (cx:=KV) true aha Tryz.func302 (hl1 axU) ⟨zs1,fun x=>x.1.1⟩ (fun x=>by kernel_rfl)
def ahb(m:(List Int)->Int->Option Bool):an K:=cB 261 ⟨[.ah U.i64,iq0],[]⟩ (fun x=>m x.1.1 x.1.2.1)
def ahc:Cx K:=aP [(302,.plain)] [ag9 M.KW] []
theorem axW:aI ahc:=aL ay _ (ae axV ak)
theorem axX:ai (ahb (M.ED)):=aG (cx:=ahc) true axW Tryz.func261 hq ⟨zs0,fun x=>x.1.1⟩ (fun x=>by kernel_rfl)
def kj(m:M.aa->(List Int)->Option Bool):an K:=cB 211 ⟨[.el U.Type,.ah U.i64],[]⟩ (fun x=>m x.1.1 x.1.2.1)
def ahd(m:M.aa->(List Int)->Option Bool):an K:=cB 262 ⟨[.el U.Type,.rp U.nA 0],[]⟩ (fun x=>m x.1.1 x.1.2.1)
def ahe(cL:M.aa->(List Int)->Option Bool):Cx K:=aP [(211,.plain)] [kj cL] []
theorem axY(cL:M.aa->(List Int)->Option Bool)(jy:ai (kj cL)):aI (ahe cL):=aL ay _ (ae jy ak)
theorem axZ(cL:M.aa->(List Int)->Option Bool)(jy:ai (kj cL)):ai (ahd (M.EE cL)):=fq (cx:=ahe cL) (fz:=true) ay (axY cL jy) cM ⟨Tryz.func262,by kernel_rfl⟩ hq ⟨zs0,fun x=>x.1.1⟩ (fun x=>rfl) (fun x=>by kernel_rfl)
def ahf(cL:M.aa->(List Int)->Option Bool):bf K:=bm D false 19 0 [0,1,7,8] [4] adU (fun x=>M.wV cL x.1.1 x.1.2.1.1 x.1.2.2.1 af x.1.2.2.2.1) jd
def ahg(m:(List M.aa)->(List Int)->Option Int):an K:=cI 260 adV (fun x=>m x.1.1 x.1.2.1.1)
def KX(cL:M.aa->(List Int)->Option Bool):Cx K:=aP [(262,.plain)] [ahd (M.EE cL)] [(2,ahf cL)]
theorem ahh(cL:M.aa->(List Int)->Option Bool)(jy:ai (kj cL)):aI (KX cL):=aL ay _ (ae (axZ cL jy) ak)
theorem ax0(cL:M.aa->(List Int)->Option Bool)(jy:ai (kj cL)):bg (KX cL) (aW (aY Tryz.f260) 0) (ahf cL):=lk (cx:=KX cL) (sh:=adU) (run:=fun n x=>M.wV cL x.1.1 x.1.2.1.1 x.1.2.2.1 n x.1.2.2.2.1) (bh:=je) (ahh cL jy) (fun m x=>by kernel_rfl) (ae ⟨bX,fun _ _ _=>rfl⟩ (ae ⟨bp,fun _ _ _=>rfl⟩ ak))
theorem ax1(cL:M.aa->(List Int)->Option Bool)(jy:ai (kj cL)):ai (ahg (M.KY cL)):=fq (cx:=KX cL) (fz:=true) ay (ahh cL jy) cM ⟨Tryz.func260,by kernel_rfl⟩ (hl1 (ax0 cL jy)) ⟨zs1,fun x=>x.1.1⟩ (fun x=>rfl) (fun x=>by kernel_rfl)
def ahi(m:(List M.aa)->(List Int)->Option Bool):an K:=cB 208 adV (fun x=>m x.1.1 x.1.2.1.1)
def ahj(cL:M.aa->(List Int)->Option Bool):Cx K:=aP [(260,.plain)] [ahg (M.KY cL)] []
theorem ax2(cL:M.aa->(List Int)->Option Bool)(jy:ai (kj cL)):aI (ahj cL):=aL ay _ (ae (ax1 cL jy) ak)
theorem ax3(cL:M.aa->(List Int)->Option Bool)(jy:ai (kj cL)):ai (ahi (M.EF cL)):=fq (cx:=ahj cL) (fz:=true) ay (ax2 cL jy) cM ⟨Tryz.func208,by kernel_rfl⟩ hq ⟨zs0,fun x=>x.1.1⟩ (fun x=>rfl) (fun x=>by kernel_rfl)
def ahk(cL:M.aa->(List Int)->Option Bool):Cx K:=aP [(261,.plain),(208,.plain)] [ahb M.ED,ahi (M.EF cL)] []
theorem ax4(cL:M.aa->(List Int)->Option Bool)(jy:ai (kj cL)):aI (ahk cL):=aL ay _ (ae axX (ae (ax3 cL jy) ak))
theorem ax5(cL:M.aa->(List Int)->Option Bool)(jy:ai (kj cL)):ai (kj (M.KZ cL)):=fq (cx:=ahk cL) (fz:=true) ay (ax4 cL jy) cM ⟨Tryz.func211,by kernel_rfl⟩ hq ⟨zs0,fun x=>x.1.1⟩ (fun x=>rfl) (fun x=>by kernel_rfl)
theorem ahl:∀n,ai (kj (M.mJ n))|0=>iG fun _=>rfl|n+1=>ax5 (M.mJ n) (ahl n)
theorem PL:ai (kj (M.kN)):=ahl af
def ahm(cK:M.aa->Option Bool):Cx K:=aP [(208,.plain),(77,.plain),(339,.plain),(103,.plain),(340,.plain),(269,.plain),(161,.plain),(211,.plain)] [agO (M.zC cK),lA M.lB,agZ M.EB,zg M.kg,ag6 M.ua,I3 M.I4,I6 M.I7,kj M.kN] []
theorem ax6(cK:M.aa->Option Bool)(jx:ai (lI cK)):aI (ahm cK):=aL ay _ (ae (axF cK jx) (ae l9 (ae axN (ae Dx (ae axT (ae OW (ae OY (ae PL ak))))))))
theorem ax7(cK:M.aa->Option Bool)(jx:ai (lI cK)):ai (lI (M.EG cK)):=fq (cx:=ahm cK) (fz:=true) ay (ax6 cK jx) cM ⟨Tryz.func301,by kernel_rfl⟩ hq ⟨zs0,fun x=>x.1.1⟩ (fun x=>rfl) (fun x=>by kernel_rfl)
theorem ahn:∀n,ai (lI (M.qV n))|0=>iG fun _=>rfl|n+1=>ax7 (M.qV n) (ahn n)
theorem ax8:ai (lI (M.K0)):=ahn af
def Oh(m:M.aa->Option Bool):an K:=cB 241 zs7 (fun x=>m x.1.1)
def aho:Cx K:=aP [(282,.plain),(283,.plain)] [tM M.Kw,tQ M.KD] []
theorem ax9:aI aho:=aL ay _ (ae axe (ae axt ak))
theorem Wc:ai (Oh (M.sJ)):=aG (cx:=aho) true ax9 Tryz.func241 hq ⟨zs0,fun x=>x.1.1⟩ (fun x=>by kernel_rfl)
def ahp(m:M.ar->Int->Option Int):an K:=cI 280 ⟨[.el U.Param,iq0],[]⟩ (fun x=>m x.1.1 x.1.2.1)
def ahq:Cx K:=aP [(240,.plain)] [nC M.zt] []
theorem aya:aI ahq:=aL ay _ (ae af6 ak)
theorem ayb:ai (ahp (M.EH)):=aG (cx:=ahq) true aya Tryz.func280 hq ⟨zs1,fun x=>x.1.1⟩ (fun x=>by kernel_rfl)
def ahr:bf K:=bm D false 27 0 [0,1,5] [1,4] adW (fun x=>M.wW x.1.1 af x.1.2.1 x.1.2.2.1) pK
def ahs(m:(List M.ar)->Int->Option Int):an K:=cI 239 ⟨[.ah U.Param,iq0],[]⟩ (fun x=>m x.1.1 x.1.2.1)
def K1:Cx K:=aP [(280,.plain)] [ahp M.EH] [(5,ahr)]
theorem aht:aI K1:=aL ay _ (ae ayb ak)
theorem ayc:bg K1 (aW (aY Tryz.f239) 0) ahr:=lk (cx:=K1) (sh:=adW) (run:=fun n x=>M.wW x.1.1 n x.1.2.1 x.1.2.2.1) (bh:=pL) aht (fun m x=>by kernel_rfl) (ae ⟨bX,fun _ _ _=>rfl⟩ (ae ⟨bp,fun _ _ _=>rfl⟩ ak))
theorem ayd:ai (ahs (M.EI)):=aG (cx:=K1) true aht Tryz.func239 (hl1 ayc) ⟨zs1,fun x=>x.1.1⟩ (fun x=>by kernel_rfl)
def ahu(m:M.aJ->Int->Option Int):an K:=cI 180 ⟨[.el U.iS,iq0],[]⟩ (fun x=>m x.1.1 x.1.2.1)
def ahv:Cx K:=aP [(239,.plain),(240,.plain)] [ahs M.EI,nC M.zt] []
theorem aye:aI ahv:=aL ay _ (ae ayd (ae af6 ak))
theorem ayf:ai (ahu (M.EJ)):=aG (cx:=ahv) true aye Tryz.func180 hq ⟨zs1,fun x=>x.1.1⟩ (fun x=>by kernel_rfl)
def ahw(m:M.aA->Int->Option Int):an K:=cI 129 ⟨[.el U.Func,iq0],[]⟩ (fun x=>m x.1.1 x.1.2.1)
def ahx:Cx K:=aP [(180,.plain)] [ahu M.EJ] []
theorem ayg:aI ahx:=aL ay _ (ae ayf ak)
theorem ayh:ai (ahw (M.EK)):=aG (cx:=ahx) true ayg Tryz.func129 hq ⟨zs1,fun x=>x.1.1⟩ (fun x=>by kernel_rfl)
def ahy:bf K:=bm D false 27 0 [0,1,5] [1,4] adX (fun x=>M.wX x.1.1 af x.1.2.1 x.1.2.2.1) pK
def ahz(m:(List M.aA)->Int->Option Int):an K:=cI 83 ⟨[.ah U.Func,iq0],[]⟩ (fun x=>m x.1.1 x.1.2.1)
def K2:Cx K:=aP [(129,.plain)] [ahw M.EK] [(5,ahy)]
theorem ahA:aI K2:=aL ay _ (ae ayh ak)
theorem ayi:bg K2 (aW (aY Tryz.f83) 0) ahy:=lk (cx:=K2) (sh:=adX) (run:=fun n x=>M.wX x.1.1 n x.1.2.1 x.1.2.2.1) (bh:=pL) ahA (fun m x=>by kernel_rfl) (ae ⟨bX,fun _ _ _=>rfl⟩ (ae ⟨bp,fun _ _ _=>rfl⟩ ak))
theorem ayj:ai (ahz (M.EL)):=aG (cx:=K2) true ahA Tryz.func83 (hl1 ayi) ⟨zs1,fun x=>x.1.1⟩ (fun x=>by kernel_rfl)
def ahB(m:M.ax->Int->Option Int):an K:=cI 43 ⟨[.el U.aS,iq0],[]⟩ (fun x=>m x.1.1 x.1.2.1)
def ahC:Cx K:=aP [(82,.plain),(83,.plain)] [PE M.wI,ahz M.EL] []
theorem ayk:aI ahC:=aL ay _ (ae afZ (ae ayj ak))
theorem ayl:ai (ahB (M.EM)):=aG (cx:=ahC) true ayk Tryz.func43 hq ⟨zs1,fun x=>x.1.1⟩ (fun x=>by kernel_rfl)
def ahD:bf K:=bm D false 27 0 [0,1,5] [1,4] VK (fun x=>M.wY x.1.1 af x.1.2.1 x.1.2.2.1) pK
def Vb(m:(List M.ax)->Int->Option Int):an K:=cI 15 adn (fun x=>m x.1.1 x.1.2.1)
def K3:Cx K:=aP [(43,.plain)] [ahB M.EM] [(5,ahD)]
theorem ahE:aI K3:=aL ay _ (ae ayl ak)
theorem aym:bg K3 (aW (aY Tryz.f15) 0) ahD:=lk (cx:=K3) (sh:=VK) (run:=fun n x=>M.wY x.1.1 n x.1.2.1 x.1.2.2.1) (bh:=pL) ahE (fun m x=>by kernel_rfl) (ae ⟨bX,fun _ _ _=>rfl⟩ (ae ⟨bp,fun _ _ _=>rfl⟩ ak))
theorem apx:ai (Vb (M.yJ)):=aG (cx:=K3) true ahE Tryz.func15 (hl1 aym) ⟨zs1,fun x=>x.1.1⟩ (fun x=>by kernel_rfl)
def ayn(y:Int⊕((List UInt8)×Int×Int×Int)){R:Type}(k:KT R):R:=match y with|.inl a0=>kk k Ex.ret adY (((),((),((),((),(a0,()))))),())|.inr a1=>kk k (Ex.exit 0) adZ ((a1.1,(a1.2.1,(a1.2.2.1,(a1.2.2.2,((),()))))),())
def ayo:List (cC K ((Int)⊕((List UInt8)×Int×Int×Int))):=[⟨Ex.ret,adY,fun x=>.inl x.1.2.2.2.2.1⟩,⟨(Ex.exit 0),adZ,fun x=>.inr ((x.1.1,x.1.2.1,x.1.2.2.1,x.1.2.2.2.1))⟩]
def ahF:bf K:=bm D false 71 0 [0,3,4,5,6] [0,3,4,5,2] ad1 (fun x=>M.pV x.1.1 af x.1.2.1 x.1.2.2.1 x.1.2.2.2.1 x.1.2.2.2.2.1) ayn
def wZ(m:Int->Option ((List UInt8))):an K:=cS 237 zs1 (fun x=>m x.1.1)
def ahG(mK:Int->Option ((List UInt8))):Cx K:=aP [(237,.plain)] [wZ mK] []
theorem ayp(mK:Int->Option ((List UInt8)))(PM:ai (wZ mK)):aI (ahG mK):=aL ay _ (ae PM ak)
theorem ayq(mK:Int->Option ((List UInt8)))(PM:ai (wZ mK)):ai (wZ (M.zD mK)):=fq (cx:=ahG mK) (fz:=true) ay (ayp mK PM) cM ⟨Tryz.func237,by kernel_rfl⟩ hq ⟨cH,fun x=>x.1.1⟩ (fun x=>rfl) (fun x=>by kernel_rfl)
theorem ahH:∀n,ai (wZ (M.pW n))|0=>iG fun _=>rfl|n+1=>ayq (M.pW n) (ahH n)
theorem ayr:ai (wZ (M.w8)):=ahH af
def ahI(m:Int->Option ((List UInt8))):an K:=cS 177 zs1 (fun x=>m x.1.1)
def ahJ:Cx K:=aP [(237,.plain)] [wZ M.w8] []
theorem ays:aI ahJ:=aL ay _ (ae ayr ak)
theorem ayt:ai (ahI (M.EN)):=aG (cx:=ahJ) true ays Tryz.func177 hq ⟨cH,fun x=>x.1.1⟩ (fun x=>by kernel_rfl)
def ahK(m:(List UInt8)->Option Int):an K:=cI 126 cH (fun x=>m x.1.1)
def K4:Cx K:=aP [(89,.plain),(177,.plain)] [pz M.pA,ahI M.EN] [(3,ahF)]
theorem ahL:aI K4:=aL ay _ (ae qN (ae ayt ak))
theorem ayu:bg K4 (aW (aY Tryz.f126) 0) ahF:=lk (cx:=K4) (sh:=ad1) (run:=fun n x=>M.pV x.1.1 n x.1.2.1 x.1.2.2.1 x.1.2.2.2.1 x.1.2.2.2.2.1) (bh:=ayo) ahL (fun m x=>by kernel_rfl) (ae ⟨bX,fun _ _ _=>rfl⟩ (ae ⟨bp,fun _ _ _=>rfl⟩ ak))
theorem ayv:ai (ahK (M.EO)):=aG (cx:=K4) true ahL Tryz.func126 (hl1 ayu) ⟨zs1,fun x=>x.1.1⟩ (fun x=>by kernel_rfl)
def Ou(m:(List UInt8)->Option Bool):an K:=cB 87 cH (fun x=>m x.1.1)
def ahM:Cx K:=aP [(126,.plain)] [ahK M.EO] []
theorem ayw:aI ahM:=aL ay _ (ae ayv ak)
theorem Xk:ai (Ou (M.vU)):=aG (cx:=ahM) true ayw Tryz.func87 hq ⟨zs0,fun x=>x.1.1⟩ (fun x=>by kernel_rfl)
def ayx(y:Bool⊕(M.ax)){R:Type}(k:KT R):R:=match y with|.inl a0=>kk k Ex.ret adh (((),(a0,())),((),()))|.inr a1=>kk k (Ex.exit 0) ⟨[.ptr 0 0,.any],[.el U.aS]⟩ (((),((),())),(a1,()))
def ayy:List (cC K ((Bool)⊕(M.ax))):=[⟨Ex.ret,adh,fun x=>.inl x.1.2.1⟩,⟨(Ex.exit 0),⟨[.ptr 0 0,.any],[.el U.aS]⟩,fun x=>.inr (x.2.1)⟩]
def ahN:bf K:=bm D false 122 1 [1,3] [1,2] VL (fun x=>M.pX x.2.1 af x.1.2.1) ayx
def ayz(y:Bool⊕(Int×M.aJ)){R:Type}(k:KT R):R:=match y with|.inl a0=>kk k Ex.ret yM (((),((),(a0,()))),((),((),())))|.inr a1=>kk k (Ex.exit 2) ad2 (((),(a1.1,((),()))),(a1.2,((),())))
def ayA:List (cC K ((Bool)⊕(Int×M.aJ))):=[⟨Ex.ret,yM,fun x=>.inl x.1.2.2.1⟩,⟨(Ex.exit 2),ad2,fun x=>.inr ((x.1.2.1,x.2.1))⟩]
def ahO:bf K:=bm D false 63 2 [1,3,4,5] [1,3,2] ad3 (fun x=>M.pY x.1.2.1 af x.1.2.2.2.1 x.2.1 x.2.2.1) ayz
def ahP:bf K:=bm D false 63 1 [1,3] [2] VW (fun x=>M.pZ af x.1.2.1 x.2.1) sB
def ahQ(m:M.aJ->Option Bool):an K:=cB 181 pB (fun x=>m x.1.1)
def zE:Cx K:=aP [(241,.plain),(183,.plain),(86,.plain)] [Oh M.sJ,pR M.ki,yW M.kf] [(10,ahO),(4,ahP)]
theorem PN:aI zE:=aL ay _ (ae Wc (ae PI (ae C6 ak)))
theorem ayB:bg zE (aW (aW (aY Tryz.f181) 0) 0) ahO:=lk (cx:=zE) (sh:=ad3) (run:=fun n x=>M.pY x.1.2.1 n x.1.2.2.2.1 x.2.1 x.2.2.1) (bh:=ayA) PN (fun m x=>by kernel_rfl) (ae ⟨bX,fun _ _ _=>rfl⟩ (ae ⟨bp,fun _ _ _=>rfl⟩ ak))
theorem ayC:bg zE (aW (aY Tryz.f181) 0) ahP:=lk (cx:=zE) (sh:=VW) (run:=fun n x=>M.pZ n x.1.2.1 x.2.1) (bh:=sC) PN (fun m x=>by kernel_rfl) (ae ⟨bX,fun _ _ _=>rfl⟩ (ae ⟨bp,fun _ _ _=>rfl⟩ ak)) (hl:=(mG 1 (by kernel_rfl) (ns (.mk (by kernel_rfl) ayB))))
theorem ayD:ai (ahQ (M.EP)):=aG (cx:=zE) true PN Tryz.func181 (hl1 ayC) ⟨zs0,fun x=>x.1.1⟩ (fun x=>by kernel_rfl)
def ayE(y:(List UInt8)×Bool×(List (List UInt8))){R:Type}(k:KT R):R:=match y with|a0=>kk k (Ex.exit 0) ad4 ((a0.1,((),(a0.2.1,()))),((),(a0.2.2,())))
def ayF:List (cC K ((List UInt8)×Bool×(List (List UInt8)))):=[⟨(Ex.exit 0),ad4,fun x=>(x.1.1,x.1.2.2.1,x.2.2.1)⟩]
def ahR:bf K:=bm D false 49 1 [0,1,5,6,7] [1,5,6] ad5 (fun x=>M.ub x.1.1 x.1.2.1 af x.1.2.2.2.1 x.1.2.2.2.2.1 x.2.2.1) ayE
def ahS(m:(List (List UInt8))->(List UInt8)->Option ((List (List UInt8)))):an K:={f:=284,sh:=ado,R:=(List (List UInt8)),run:=fun x=>m x.1.1 x.1.2.1,dflt:=default,out:=fun r=>(Sh.enc D (.ah U.str) r,bk.encs D [] ())}
def K5:Cx K:=aP [] [] [(4,ahR)]
theorem ahT:aI K5:=aL ay _ ak
theorem ayG:bg K5 (aW (aY Tryz.f284) 0) ahR:=lk (cx:=K5) (sh:=ad5) (run:=fun n x=>M.ub x.1.1 x.1.2.1 n x.1.2.2.2.1 x.1.2.2.2.2.1 x.2.2.1) (bh:=ayF) ahT (fun m x=>by kernel_rfl) (ae ⟨bp,fun _ _ _=>rfl⟩ ak)
theorem ayH:ai (ahS (M.ER)):=aG (cx:=K5) true ahT Tryz.func284 (hl1 ayG) ⟨pD,fun x=>x.1.1⟩ (fun x=>by kernel_rfl)
def uc(m:M.aa->(List (List UInt8))->Option ((List (List UInt8)))):an K:={f:=242,sh:=⟨[.el U.Type,.ah U.str],[]⟩,R:=(List (List UInt8)),run:=fun x=>m x.1.1 x.1.2.1,dflt:=default,out:=fun r=>(Sh.enc D (.ah U.str) r,bk.encs D [] ())}
def ayI(y:(List (List UInt8))){R:Type}(k:KT R):R:=match y with|a0=>kk k (Ex.exit 0) ⟨[.ah U.str],[.dead]⟩ ((a0,()),((),()))
def ayJ:List (cC K ((List (List UInt8)))):=[⟨(Ex.exit 0),⟨[.ah U.str],[.dead]⟩,fun x=>x.1.1⟩]
def ahU(fV:M.aa->(List (List UInt8))->Option ((List (List UInt8)))):bf K:=bm D false 28 1 [1,2,5] [1] ad6 (fun x=>M.qW fV af x.1.1 x.1.2.2.1 x.2.1) ayI
def K6(fV:M.aa->(List (List UInt8))->Option ((List (List UInt8)))):Cx K:=aP [(284,.fm),(242,.fm)] [ahS M.ER,uc fV] [(4,ahU fV)]
theorem ahV(fV:M.aa->(List (List UInt8))->Option ((List (List UInt8))))(zF:ai (uc fV)):aI (K6 fV):=aL ay _ (ae ayH (ae zF ak))
theorem ayK(fV:M.aa->(List (List UInt8))->Option ((List (List UInt8))))(zF:ai (uc fV)):bg (K6 fV) (aW (aY Tryz.f242) 0) (ahU fV):=lk (cx:=K6 fV) (sh:=ad6) (run:=fun n x=>M.qW fV n x.1.1 x.1.2.2.1 x.2.1) (bh:=ayJ) (ahV fV zF) (fun m x=>by kernel_rfl) (ae ⟨bp,fun _ _ _=>rfl⟩ ak)
theorem ayL(fV:M.aa->(List (List UInt8))->Option ((List (List UInt8))))(zF:ai (uc fV)):ai (uc (M.K7 fV)):=fq (cx:=K6 fV) (fz:=true) ay (ahV fV zF) cM ⟨Tryz.func242,by kernel_rfl⟩ (hl1 (ayK fV zF)) ⟨pD,fun x=>x.1.1⟩ (fun x=>rfl) (fun x=>by kernel_rfl)
theorem ahW:∀n,ai (uc (M.qX n))|0=>iG fun _=>rfl|n+1=>ayL (M.qX n) (ahW n)
theorem ayM:ai (uc (M.zG)):=ahW af
def ayN(y:(List (List UInt8))×(List (List UInt8))){R:Type}(k:KT R):R:=match y with|a0=>kk k (Ex.exit 0) ⟨[.ah U.str,.ah U.str],[.dead]⟩ ((a0.1,(a0.2,())),((),()))
def ayO:List (cC K ((List (List UInt8))×(List (List UInt8)))):=[⟨(Ex.exit 0),⟨[.ah U.str,.ah U.str],[.dead]⟩,fun x=>(x.1.1,x.1.2.1)⟩]
def ahX:bf K:=bm D false 55 1 [1,2,5,6] [1,5] ad7 (fun x=>M.w9 x.1.1 af x.1.2.2.1 x.1.2.2.2.1 x.2.1) ayN
def ayP(y:(List (List UInt8))×(List (List UInt8))×Int×Bool){R:Type}(k:KT R):R:=match y with|a0=>kk k (Ex.exit 4) ad8 ((a0.1,(a0.2.1,(a0.2.2.1,(a0.2.2.2,())))),())
def ayQ:List (cC K ((List (List UInt8))×(List (List UInt8))×Int×Bool)):=[⟨(Ex.exit 4),ad8,fun x=>(x.1.1,x.1.2.1,x.1.2.2.1,x.1.2.2.2.1)⟩]
def ahY:bf K:=bm D false 55 0 [1,5,7,8,9] [1,5,7,8] ad9 (fun x=>M.xa x.1.1 x.1.2.1 x.1.2.2.1 af x.1.2.2.2.1 x.1.2.2.2.2.1) ayP
def ayR(y:Bool⊕Unit){R:Type}(k:KT R):R:=match y with|.inl a0=>kk k Ex.ret zs0 ((a0,()),())|.inr a1=>kk k (Ex.exit 2) zs2 (((),()),())
def ayS:List (cC K ((Bool)⊕Unit)):=[⟨Ex.ret,zs0,fun x=>.inl x.1.1⟩,⟨(Ex.exit 2),zs2,fun x=>.inr (())⟩]
def ahZ:bf K:=bm D false 55 0 [1,5,7] [4] JK (fun x=>M.qa af x.1.1 x.1.2.1 x.1.2.2.1) ayR
def ah0(m:M.aJ->(List (List UInt8))->Option Bool):an K:=cB 182 ⟨[.el U.iS,.ah U.str],[]⟩ (fun x=>m x.1.1 x.1.2.1)
def ud:Cx K:=aP [(242,.fm)] [uc M.zG] [(3,ahX),(11,ahY),(7,ahZ)]
theorem K8:aI ud:=aL ay _ (ae ayM ak)
theorem ayT:bg ud (aW (aW (aY Tryz.f182) 1) 0) ahY:=lk (cx:=ud) (sh:=ad9) (run:=fun n x=>M.xa x.1.1 x.1.2.1 x.1.2.2.1 n x.1.2.2.2.1 x.1.2.2.2.2.1) (bh:=ayQ) K8 (fun m x=>by kernel_rfl) (ae ⟨bp,fun _ _ _=>rfl⟩ ak)
theorem ayU:bg ud (aW (aY Tryz.f182) 0) ahX:=lk (cx:=ud) (sh:=ad7) (run:=fun n x=>M.w9 x.1.1 n x.1.2.2.1 x.1.2.2.2.1 x.2.1) (bh:=ayO) K8 (fun m x=>by kernel_rfl) (ae ⟨bp,fun _ _ _=>rfl⟩ ak)
theorem ayV:bg ud (aW (aY Tryz.f182) 1) ahZ:=lk (cx:=ud) (sh:=JK) (run:=fun n x=>M.qa n x.1.1 x.1.2.1 x.1.2.2.1) (bh:=ayS) K8 (fun m x=>by kernel_rfl) (ae ⟨bX,fun _ _ _=>rfl⟩ (ae ⟨bp,fun _ _ _=>rfl⟩ ak)) (hl:=(mG 1 (by kernel_rfl) (ns (.mk (by kernel_rfl) ayT))))
theorem ayW:ai (ah0 (M.ES)):=aG (cx:=ud) true K8 Tryz.func182 (hl2 ayU ayV) ⟨zs0,fun x=>x.1.1⟩ (fun x=>by kernel_rfl)
def VE(y:Bool⊕Unit){R:Type}(k:KT R):R:=match y with|.inl a0=>kk k Ex.ret JE ((a0,()),((),()))|.inr a1=>kk k (Ex.exit 2) yP (((),()),((),()))
def VH:List (cC K ((Bool)⊕Unit)):=[⟨Ex.ret,JE,fun x=>.inl x.1.1⟩,⟨(Ex.exit 2),yP,fun x=>.inr (())⟩]
def ah1:bf K:=bm D false 122 1 [1,4] [2] VL (fun x=>M.qb x.2.1 af x.1.2.1) VE
def ah2(m:M.ax->Option Bool):an K:=cB 131 sQ (fun x=>m x.1.1)
def zH:Cx K:=aP [(86,.plain),(87,.plain),(181,.plain),(182,.plain)] [yW M.kf,Ou M.vU,ahQ M.EP,ah0 M.ES] [(4,ahN),(9,ah1)]
theorem PO:aI zH:=aL ay _ (ae C6 (ae Xk (ae ayD (ae ayW ak))))
theorem ayX:bg zH (aW (aY Tryz.f131) 0) ahN:=lk (cx:=zH) (sh:=VL) (run:=fun n x=>M.pX x.2.1 n x.1.2.1) (bh:=ayy) PO (fun m x=>by kernel_rfl) (ae ⟨bX,fun _ _ _=>rfl⟩ (ae ⟨bp,fun _ _ _=>rfl⟩ ak))
theorem ayY:bg zH (aW (aY Tryz.f131) 1) ah1:=lk (cx:=zH) (sh:=VL) (run:=fun n x=>M.qb x.2.1 n x.1.2.1) (bh:=VH) PO (fun m x=>by kernel_rfl) (ae ⟨bX,fun _ _ _=>rfl⟩ (ae ⟨bp,fun _ _ _=>rfl⟩ ak))
theorem ayZ:ai (ah2 (M.ET)):=aG (cx:=zH) true PO Tryz.func131 (hl2 ayX ayY) ⟨zs0,fun x=>x.1.1⟩ (fun x=>by kernel_rfl)
def C5(m:M.ax->Option ((List UInt8))):an K:=cS 132 sQ (fun x=>m x.1.1)
theorem H3:ai (C5 (M.jP)):=aG (cx:=dy) true dA Tryz.func132 hq ⟨cH,fun x=>x.1.1⟩ (fun x=>by kernel_rfl)
def ah3:bf K:=bm D false 25 1 [1,3] [2] VW (fun x=>M.qc af x.1.2.1 x.2.1) sB
def ah4(m:M.aJ->Option Bool):an K:=cB 133 pB (fun x=>m x.1.1)
def K9:Cx K:=aP [(183,.plain)] [pR M.ki] [(4,ah3)]
theorem ah5:aI K9:=aL ay _ (ae PI ak)
theorem ay0:bg K9 (aW (aY Tryz.f133) 0) ah3:=lk (cx:=K9) (sh:=VW) (run:=fun n x=>M.qc n x.1.2.1 x.2.1) (bh:=sC) ah5 (fun m x=>by kernel_rfl) (ae ⟨bX,fun _ _ _=>rfl⟩ (ae ⟨bp,fun _ _ _=>rfl⟩ ak))
theorem ay1:ai (ah4 (M.EU)):=aG (cx:=K9) true ah5 Tryz.func133 (hl1 ay0) ⟨zs0,fun x=>x.1.1⟩ (fun x=>by kernel_rfl)
def ay2(y:Bool⊕((List M.ax)×Int)){R:Type}(k:KT R):R:=match y with|.inl a0=>kk k Ex.ret yT (((),((),(a0,()))),())|.inr a1=>kk k (Ex.exit 2) ⟨[.ah U.aS,iq0,.any],[]⟩ ((a1.1,(a1.2,((),()))),())
def ay3:List (cC K ((Bool)⊕((List M.ax)×Int))):=[⟨Ex.ret,yT,fun x=>.inl x.1.2.2.1⟩,⟨(Ex.exit 2),⟨[.ah U.aS,iq0,.any],[]⟩,fun x=>.inr ((x.1.1,x.1.2.1))⟩]
def ah6:bf K:=bm D false 59 0 [0,3,4] [0,3,2] VK (fun x=>M.ue x.1.1 x.1.2.1 af x.1.2.2.1) ay2
def ah7:bf K:=bm D false 59 0 [0,3] [2] adn (fun x=>M.qd af x.1.1 x.1.2.1) js
def Xj(m:(List M.ax)->Option Bool):an K:=cB 88 adg (fun x=>m x.1.1)
def zI:Cx K:=aP [(131,.plain),(132,.plain),(133,.plain)] [ah2 M.ET,C5 M.jP,ah4 M.EU] [(9,ah6),(4,ah7)]
theorem PQ:aI zI:=aL ay _ (ae ayZ (ae H3 (ae ay1 ak)))
theorem ay4:bg zI (aW (aW (aY Tryz.f88) 0) 0) ah6:=lk (cx:=zI) (sh:=VK) (run:=fun n x=>M.ue x.1.1 x.1.2.1 n x.1.2.2.1) (bh:=ay3) PQ (fun m x=>by kernel_rfl) (ae ⟨bX,fun _ _ _=>rfl⟩ (ae ⟨bp,fun _ _ _=>rfl⟩ ak))
theorem ay5:bg zI (aW (aY Tryz.f88) 0) ah7:=lk (cx:=zI) (sh:=adn) (run:=fun n x=>M.qd n x.1.1 x.1.2.1) (bh:=jt) PQ (fun m x=>by kernel_rfl) (ae ⟨bX,fun _ _ _=>rfl⟩ (ae ⟨bp,fun _ _ _=>rfl⟩ ak)) (hl:=(mG 1 (by kernel_rfl) (ns (.mk (by kernel_rfl) ay4))))
theorem aqX:ai (Xj (M.yX)):=aG (cx:=zI) true PQ Tryz.func88 (hl1 ay5) ⟨zs0,fun x=>x.1.1⟩ (fun x=>by kernel_rfl)
def ay6(y:(Int×Bool)⊕Int){R:Type}(k:KT R):R:=match y with|.inl a0=>kk k Ex.ret ⟨[.any,iq0,.bool],[]⟩ (((),(a0.1,(a0.2,()))),())|.inr a1=>kk k (Ex.exit 0) ⟨[iq0,.any,.any],[]⟩ ((a1,((),((),()))),())
def ay7:List (cC K ((Int×Bool)⊕Int)):=[⟨Ex.ret,⟨[.any,iq0,.bool],[]⟩,fun x=>.inl (x.1.2.1,x.1.2.2.1)⟩,⟨(Ex.exit 0),⟨[iq0,.any,.any],[]⟩,fun x=>.inr (x.1.1)⟩]
def ah8:bf K:=bm D false 39 0 [5,15,16,17] [5,2,3] aea (fun x=>M.qY x.1.2.1 x.1.2.2.1 af x.1.1 x.1.2.2.2.1) ay6
def ah9(m:(List UInt8)->Option (Int×Bool)):an K:={f:=147,sh:=cH,R:=Int×Bool,run:=fun x=>m x.1.1,dflt:=default,out:=fun r=>(Sh.enc D (.bQ [iq0,.bool]) (r.1,(r.2,())),bk.encs D [] ())}
def La:Cx K:=aP [(199,.fm),(200,.plain),(77,.plain)] [PR M.strings_Split,PS M.qZ,lA M.lB] [(6,ah8)]
theorem aia:aI La:=aL ay _ (ae ay8 (ae ay9 (ae l9 ak)))
theorem aza:bg La (aW (aY Tryz.f147) 0) ah8:=lk (cx:=La) (sh:=aea) (run:=fun n x=>M.qY x.1.2.1 x.1.2.2.1 n x.1.1 x.1.2.2.2.1) (bh:=ay7) aia (fun m x=>by kernel_rfl) (ae ⟨bX,fun _ _ _=>rfl⟩ (ae ⟨bp,fun _ _ _=>rfl⟩ ak))
theorem azb:ai (ah9 (M.EV)):=aG (cx:=La) true aia Tryz.func147 (hl1 aza) ⟨JF,fun x=>(x.1.1.1,x.1.1.2.1)⟩ (fun x=>by kernel_rfl)
def OP(m:(List UInt8)->Option Bool):an K:=cB 104 cH (fun x=>m x.1.1)
def aib:Cx K:=aP [(147,.plain)] [ah9 M.EV] []
theorem azc:aI aib:=aL ay _ (ae azb ak)
theorem ZE:ai (OP (M.v8)):=aG (cx:=aib) true azc Tryz.func104 hq ⟨zs0,fun x=>x.1.1⟩ (fun x=>by kernel_rfl)
def aic:bf K:=bm D false 20 0 [0,3] [2] Jk (fun x=>M.uf x.1.1 af x.1.2.1) js
def PT(m:(List (List UInt8))->Option Bool):an K:=cB 153 pD (fun x=>m x.1.1)
def Lc:Cx K:=aP [] [] [(2,aic)]
theorem aid:aI Lc:=aL ay _ ak
theorem azd:bg Lc (aW (aY Tryz.f153) 0) aic:=lk (cx:=Lc) (sh:=Jk) (run:=fun n x=>M.uf x.1.1 n x.1.2.1) (bh:=jt) aid (fun m x=>by kernel_rfl) (ae ⟨bX,fun _ _ _=>rfl⟩ (ae ⟨bp,fun _ _ _=>rfl⟩ ak))
theorem aie:ai (PT (M.ug)):=aG (cx:=Lc) true aid Tryz.func153 (hl1 azd) ⟨zs0,fun x=>x.1.1⟩ (fun x=>by kernel_rfl)
def aif(m:(List UInt8)->Option Bool):an K:=cB 202 cH (fun x=>m x.1.1)
theorem aze:ai (aif (M.EW)):=aG (cx:=PK) true agT Tryz.func202 hq ⟨zs0,fun x=>x.1.1⟩ (fun x=>by kernel_rfl)
def aih:bf K:=bm D false 19 0 [0,1,7,8] [4] aeb (fun x=>M.xb x.1.1 x.1.2.2.1 af x.1.2.2.2.1) jd
def aii(m:(List (List UInt8))->Option Int):an K:=cI 255 ⟨[.ah U.str,.fn 202 []],[]⟩ (fun x=>m x.1.1)
def Ld:Cx K:=aP [(202,.plain)] [aif M.EW] [(2,aih)]
theorem aij:aI Ld:=aL ay _ (ae aze ak)
theorem azf:bg Ld (aW (aY Tryz.f255) 0) aih:=lk (cx:=Ld) (sh:=aeb) (run:=fun n x=>M.xb x.1.1 x.1.2.2.1 n x.1.2.2.2.1) (bh:=je) aij (fun m x=>by kernel_rfl) (ae ⟨bX,fun _ _ _=>rfl⟩ (ae ⟨bp,fun _ _ _=>rfl⟩ ak))
theorem azg:ai (aii (M.Le)):=aG (cx:=Ld) true aij Tryz.func255 (hl1 azf) ⟨zs1,fun x=>x.1.1⟩ (fun x=>by kernel_rfl)
def aik(m:(List (List UInt8))->Option Bool):an K:=cB 201 ⟨[.ah U.str,.fn 202 []],[]⟩ (fun x=>m x.1.1)
def ail:Cx K:=aP [(255,.plain)] [aii M.Le] []
theorem azh:aI ail:=aL ay _ (ae azg ak)
theorem azi:ai (aik (M.EX)):=aG (cx:=ail) true azh Tryz.func201 hq ⟨zs0,fun x=>x.1.1⟩ (fun x=>by kernel_rfl)
def PU(m:M.aa->Option Bool):an K:=cB 257 zs7 (fun x=>m x.1.1)
def aim:Cx K:=aP [(299,.plain),(300,.plain),(301,.plain)] [tR M.KG,tW M.KJ,lI M.K0] []
theorem azj:aI aim:=aL ay _ (ae axw (ae axz (ae ax8 ak)))
theorem ain:ai (PU (M.xc)):=aG (cx:=aim) true azj Tryz.func257 hq ⟨zs0,fun x=>x.1.1⟩ (fun x=>by kernel_rfl)
def azk(y:Bool⊕((List M.ar)×(List (List UInt8)))){R:Type}(k:KT R):R:=match y with|.inl a0=>kk k Ex.ret yM (((),((),(a0,()))),((),((),())))|.inr a1=>kk k (Ex.exit 0) aec ((a1.1,((),((),()))),((),(a1.2,())))
def azl:List (cC K ((Bool)⊕((List M.ar)×(List (List UInt8))))):=[⟨Ex.ret,yM,fun x=>.inl x.1.2.2.1⟩,⟨(Ex.exit 0),aec,fun x=>.inr ((x.1.1,x.2.2.1))⟩]
def aio:bf K:=bm D false 41 1 [0,3,7,8,9] [0,3,2] aed (fun x=>M.uh x.1.1 x.1.2.2.1 x.1.2.2.2.1 af x.1.2.2.2.2.1 x.2.2.1) azk
def aip(m:(List M.ar)->Option Bool):an K:=cB 256 Hz (fun x=>m x.1.1)
def Lh:Cx K:=aP [(103,.plain),(257,.plain),(217,.plain),(160,.plain)] [zg M.kg,PU M.xc,IG M.IH,yZ M.lC] [(3,aio)]
theorem aiq:aI Lh:=aL ay _ (ae Dx (ae ain (ae OL (ae Il ak))))
theorem azm:bg Lh (aW (aY Tryz.f256) 0) aio:=lk (cx:=Lh) (sh:=aed) (run:=fun n x=>M.uh x.1.1 x.1.2.2.1 x.1.2.2.2.1 n x.1.2.2.2.2.1 x.2.2.1) (bh:=azl) aiq (fun m x=>by kernel_rfl) (ae ⟨bX,fun _ _ _=>rfl⟩ (ae ⟨bp,fun _ _ _=>rfl⟩ ak))
theorem azn:ai (aip (M.EY)):=aG (cx:=Lh) true aiq Tryz.func256 (hl1 azm) ⟨zs0,fun x=>x.1.1⟩ (fun x=>by kernel_rfl)
def air(m:M.aJ->Option Bool):an K:=cB 203 pB (fun x=>m x.1.1)
def ais:Cx K:=aP [(256,.plain),(257,.plain),(211,.plain)] [aip M.EY,PU M.xc,kj M.kN] []
theorem azo:aI ais:=aL ay _ (ae azn (ae ain (ae PL ak)))
theorem azp:ai (air (M.EZ)):=aG (cx:=ais) true azo Tryz.func203 hq ⟨zs0,fun x=>x.1.1⟩ (fun x=>by kernel_rfl)
def ui(m:M.aa->Option ((List (List UInt8)))):an K:={f:=258,sh:=zs7,R:=(List (List UInt8)),run:=fun x=>m x.1.1,dflt:=default,out:=fun r=>(Sh.enc D (.own 0) (),bk.encs D [.arr U.str] (r,()))}
def OQ(y:(List (List UInt8))){R:Type}(k:KT R):R:=match y with|a0=>kk k (Ex.exit 0) Jm (((),()),((),(a0,())))
def OS:List (cC K ((List (List UInt8)))):=[⟨(Ex.exit 0),Jm,fun x=>x.2.2.1⟩]
def ait(fW:M.aa->Option ((List (List UInt8)))):bf K:=bm D false 33 1 [3,21,22,23] [3] aee (fun x=>M.rf fW x.1.2.1 x.1.2.2.1 af x.1.2.2.2.1 x.2.2.1) OQ
def Lj(fW:M.aa->Option ((List (List UInt8)))):Cx K:={tl with mode:=dO .plain [(258,.fresh)],fl:=[[some U.str]],call:=callOf D [ui fW],loop:=dI [(5,ait fW)]}
theorem aiu(fW:M.aa->Option ((List (List UInt8))))(zJ:ai (ui fW)):aI (Lj fW):=aL ay _ (ae zJ ak)
theorem azq(fW:M.aa->Option ((List (List UInt8))))(zJ:ai (ui fW)):bg (Lj fW) (aW (aY Tryz.f258) 0) (ait fW):=lk (cx:=Lj fW) (sh:=aee) (run:=fun n x=>M.rf fW x.1.2.1 x.1.2.2.1 n x.1.2.2.2.1 x.2.2.1) (bh:=OS) (aiu fW zJ) (fun m x=>by kernel_rfl) (ae ⟨bp,fun _ _ _=>rfl⟩ ak)
theorem azr(fW:M.aa->Option ((List (List UInt8))))(zJ:ai (ui fW)):ai (ui (M.Ll fW)):=fq (cx:=Lj fW) (fz:=false) ay (aiu fW zJ) cM ⟨Tryz.func258,by kernel_rfl⟩ (hl1 (azq fW zJ)) ⟨⟨[.own 0],[.arr U.str]⟩,fun x=>x.2.1⟩ (fun x=>rfl) (fun x=>by kernel_rfl)
theorem aiv:∀n,ai (ui (M.rh n))|0=>iG fun _=>rfl|n+1=>azr (M.rh n) (aiv n)
theorem azs:ai (ui (M.zK)):=aiv af
def aiw:bf K:=bm D false 23 1 [3,10,11,12] [3] aef (fun x=>M.xd x.1.2.1 x.1.2.2.1 af x.1.2.2.2.1 x.2.2.1) OQ
def aix(m:M.aJ->Option ((List (List UInt8)))):an K:={f:=204,sh:=pB,R:=(List (List UInt8)),run:=fun x=>m x.1.1,dflt:=default,out:=fun r=>(Sh.enc D (.ah U.str) r,bk.encs D [] ())}
def Lm:Cx K:=aP [(258,.fresh)] [ui M.zK] [(3,aiw)]
theorem aiy:aI Lm:=aL ay _ (ae azs ak)
theorem azt:bg Lm (aW (aY Tryz.f204) 0) aiw:=lk (cx:=Lm) (sh:=aef) (run:=fun n x=>M.xd x.1.2.1 x.1.2.2.1 n x.1.2.2.2.1 x.2.2.1) (bh:=OS) aiy (fun m x=>by kernel_rfl) (ae ⟨bp,fun _ _ _=>rfl⟩ ak)
theorem azu:ai (aix (M.E0)):=aG (cx:=Lm) true aiy Tryz.func204 (hl1 azt) ⟨pD,fun x=>x.1.1⟩ (fun x=>by kernel_rfl)
def aiz:bf K:=bm D false 19 0 [0,1,7,8] [4] aeg (fun x=>M.xe x.1.1 x.1.2.1 x.1.2.2.1 af x.1.2.2.2.1) jd
def aiA(m:(List (List UInt8))->(List UInt8)->Option Int):an K:=cI 259 ado (fun x=>m x.1.1 x.1.2.1)
def Ln:Cx K:=aP [] [] [(2,aiz)]
theorem aiB:aI Ln:=aL ay _ ak
theorem azv:bg Ln (aW (aY Tryz.f259) 0) aiz:=lk (cx:=Ln) (sh:=aeg) (run:=fun n x=>M.xe x.1.1 x.1.2.1 x.1.2.2.1 n x.1.2.2.2.1) (bh:=je) aiB (fun m x=>by kernel_rfl) (ae ⟨bX,fun _ _ _=>rfl⟩ (ae ⟨bp,fun _ _ _=>rfl⟩ ak))
theorem azw:ai (aiA (M.Lo)):=aG (cx:=Ln) true aiB Tryz.func259 (hl1 azv) ⟨zs1,fun x=>x.1.1⟩ (fun x=>by kernel_rfl)
def ON(m:(List (List UInt8))->(List UInt8)->Option Bool):an K:=cB 206 ado (fun x=>m x.1.1 x.1.2.1)
def aiC:Cx K:=aP [(259,.plain)] [aiA M.Lo] []
theorem azx:aI aiC:=aL ay _ (ae azw ak)
theorem Zr:ai (ON (M.sq)):=aG (cx:=aiC) true azx Tryz.func206 hq ⟨zs0,fun x=>x.1.1⟩ (fun x=>by kernel_rfl)
def aiD(m:(List UInt8)->M.ax->Option Bool):an K:=cB 205 ⟨[.str,.rp U.aS 0],[]⟩ (fun x=>m x.1.1 x.1.2.1)
def aiE:Cx K:=aP [(206,.plain)] [ON M.sq] []
theorem azy:aI aiE:=aL ay _ (ae Zr ak)
theorem azz:ai (aiD (M.E1)):=aG (cx:=aiE) true azy Tryz.func205 hq ⟨zs0,fun x=>x.1.1⟩ (fun x=>by kernel_rfl)
def aiF:bf K:=bm D false 19 0 [0,1,7,8] [4] aeh (fun x=>M.xf x.1.1 x.1.2.1.1 x.1.2.2.1 af x.1.2.2.2.1) jd
def aiG(m:(List (List UInt8))->M.ax->Option Int):an K:=cI 255 aei (fun x=>m x.1.1 x.1.2.1.1)
def Lp:Cx K:=aP [(205,.plain)] [aiD M.E1] [(2,aiF)]
theorem aiH:aI Lp:=aL ay _ (ae azz ak)
theorem azA:bg Lp (aW (aY Tryz.f255) 0) aiF:=lk (cx:=Lp) (sh:=aeh) (run:=fun n x=>M.xf x.1.1 x.1.2.1.1 x.1.2.2.1 n x.1.2.2.2.1) (bh:=je) aiH (fun m x=>by kernel_rfl) (ae ⟨bX,fun _ _ _=>rfl⟩ (ae ⟨bp,fun _ _ _=>rfl⟩ ak))
theorem azB:ai (aiG (M.Lq)):=aG (cx:=Lp) true aiH Tryz.func255 (hl1 azA) ⟨zs1,fun x=>x.1.1⟩ (fun x=>by kernel_rfl)
def aiI(m:(List (List UInt8))->M.ax->Option Bool):an K:=cB 201 aei (fun x=>m x.1.1 x.1.2.1.1)
def aiJ:Cx K:=aP [(255,.plain)] [aiG M.Lq] []
theorem azC:aI aiJ:=aL ay _ (ae azB ak)
theorem azD:ai (aiI (M.E2)):=aG (cx:=aiJ) true azC Tryz.func201 hq ⟨zs0,fun x=>x.1.1⟩ (fun x=>by kernel_rfl)
def azE(y:Bool⊕((List (List UInt8)))){R:Type}(k:KT R):R:=match y with|.inl a0=>kk k Ex.ret ⟨[.any,.bool],[.dead,.dead,.dead]⟩ (((),(a0,())),((),((),((),()))))|.inr a1=>kk k (Ex.exit 0) aej (((),((),())),((),((),(a1,()))))
def azF:List (cC K ((Bool)⊕((List (List UInt8))))):=[⟨Ex.ret,⟨[.any,.bool],[.dead,.dead,.dead]⟩,fun x=>.inl x.1.2.1⟩,⟨(Ex.exit 0),aej,fun x=>.inr (x.2.2.2.1)⟩]
def aiK:bf K:=bm D false 74 2 [1,3,45,46,47] [3,2] aek (fun x=>M.uj x.1.2.2.1 x.1.2.2.2.1 x.2.1 af x.1.2.2.2.2.1 x.2.2.2.1) azE
def aiL(m:M.ax->Option Bool):an K:=cB 148 sQ (fun x=>m x.1.1)
def Lr:Cx K:=aP [(103,.plain),(104,.plain),(153,.plain),(201,.plain),(203,.plain),(204,.fm)] [zg M.kg,OP M.v8,PT M.ug,aik M.EX,air M.EZ,aix M.E0,aiI M.E2] [(7,aiK)]
theorem aiM:aI Lr:=aL ay _ (ae Dx (ae ZE (ae aie (ae azi (ae azp (ae azu (ae azD ak)))))))
theorem azG:bg Lr (aW (aY Tryz.f148) 0) aiK:=lk (cx:=Lr) (sh:=aek) (run:=fun n x=>M.uj x.1.2.2.1 x.1.2.2.2.1 x.2.1 n x.1.2.2.2.2.1 x.2.2.2.1) (bh:=azF) aiM (fun m x=>by kernel_rfl) (ae ⟨bX,fun _ _ _=>rfl⟩ (ae ⟨bp,fun _ _ _=>rfl⟩ ak))
theorem azH:ai (aiL (M.E3)):=aG (cx:=Lr) true aiM Tryz.func148 (hl1 azG) ⟨zs0,fun x=>x.1.1⟩ (fun x=>by kernel_rfl)
def azI(y:(List M.aa)){R:Type}(k:KT R):R:=match y with|a0=>kk k (Ex.exit 0) HA (((),()),((),(a0,())))
def azJ:List (cC K ((List M.aa))):=[⟨(Ex.exit 0),HA,fun x=>x.2.2.1⟩]
def aiN:bf K:=bm D false 21 1 [3,8,9,10] [3] ael (fun x=>M.nE x.1.2.1 x.1.2.2.1 af x.1.2.2.2.1 x.2.2.1) azI
def OJ(m:M.aJ->Option ((List M.aa))):an K:={f:=209,sh:=pB,R:=(List M.aa),run:=fun x=>m x.1.1,dflt:=default,out:=fun r=>(Sh.enc D (.own 0) (),bk.encs D [.arr U.Type] (r,()))}
def Ls:Cx K:={tl with mode:=dO .plain [],fl:=[[some U.Type]],call:=callOf D [],loop:=dI [(3,aiN)]}
theorem aiO:aI Ls:=aL ay _ ak
theorem azK:bg Ls (aW (aY Tryz.f209) 0) aiN:=lk (cx:=Ls) (sh:=ael) (run:=fun n x=>M.nE x.1.2.1 x.1.2.2.1 n x.1.2.2.2.1 x.2.2.1) (bh:=azJ) aiO (fun m x=>by kernel_rfl) (ae ⟨bp,fun _ _ _=>rfl⟩ ak)
theorem Y1:ai (OJ (M.qQ)):=aG (cx:=Ls) false aiO Tryz.func209 (hl1 azK) ⟨⟨[.own 0],[.arr U.Type]⟩,fun x=>x.2.1⟩ (fun x=>by kernel_rfl)
def aiP(m:M.aa->Option Bool):an K:=cB 210 zs7 (fun x=>m x.1.1)
def aiQ:Cx K:=aP [(211,.plain)] [kj M.kN] []
theorem azL:aI aiQ:=aL ay _ (ae PL ak)
theorem azM:ai (aiP (M.E4)):=aG (cx:=aiQ) true azL Tryz.func210 hq ⟨zs0,fun x=>x.1.1⟩ (fun x=>by kernel_rfl)
def aiR:bf K:=bm D false 19 0 [0,1,7,8] [4] aem (fun x=>M.xg x.1.1 x.1.2.2.1 af x.1.2.2.2.1) jd
def aiS(m:(List M.aa)->Option Int):an K:=cI 260 ⟨[.ah U.Type,.fn 210 []],[]⟩ (fun x=>m x.1.1)
def Lt:Cx K:=aP [(210,.plain)] [aiP M.E4] [(2,aiR)]
theorem aiT:aI Lt:=aL ay _ (ae azM ak)
theorem azN:bg Lt (aW (aY Tryz.f260) 0) aiR:=lk (cx:=Lt) (sh:=aem) (run:=fun n x=>M.xg x.1.1 x.1.2.2.1 n x.1.2.2.2.1) (bh:=je) aiT (fun m x=>by kernel_rfl) (ae ⟨bX,fun _ _ _=>rfl⟩ (ae ⟨bp,fun _ _ _=>rfl⟩ ak))
theorem azO:ai (aiS (M.Lu)):=aG (cx:=Lt) true aiT Tryz.func260 (hl1 azN) ⟨zs1,fun x=>x.1.1⟩ (fun x=>by kernel_rfl)
def aiU(m:(List M.aa)->Option Bool):an K:=cB 208 ⟨[.ah U.Type,.fn 210 []],[]⟩ (fun x=>m x.1.1)
def aiV:Cx K:=aP [(260,.plain)] [aiS M.Lu] []
theorem azP:aI aiV:=aL ay _ (ae azO ak)
theorem azQ:ai (aiU (M.E5)):=aG (cx:=aiV) true azP Tryz.func208 hq ⟨zs0,fun x=>x.1.1⟩ (fun x=>by kernel_rfl)
def aiW(m:M.aJ->Option Bool):an K:=cB 151 pB (fun x=>m x.1.1)
def aiX:Cx K:=aP [(209,.fresh),(208,.plain)] [OJ M.qQ,aiU M.E5] []
theorem azR:aI aiX:=aL ay _ (ae Y1 (ae azQ ak))
theorem azS:ai (aiW (M.E6)):=aG (cx:=aiX) true azR Tryz.func151 hq ⟨zs0,fun x=>x.1.1⟩ (fun x=>by kernel_rfl)
def aiY(m:M.aA->Option Bool):an K:=cB 150 adi (fun x=>m x.1.1)
def aiZ:Cx K:=aP [(151,.plain)] [aiW M.E6] []
theorem azT:aI aiZ:=aL ay _ (ae azS ak)
theorem azU:ai (aiY (M.E7)):=aG (cx:=aiZ) true azT Tryz.func150 hq ⟨zs0,fun x=>x.1.1⟩ (fun x=>by kernel_rfl)
def ai0:bf K:=bm D false 19 0 [0,1,7,8] [4] aen (fun x=>M.xh x.1.1 x.1.2.2.1 af x.1.2.2.2.1) jd
def ai1(m:(List M.aA)->Option Int):an K:=cI 207 ⟨[.ah U.Func,.fn 150 []],[]⟩ (fun x=>m x.1.1)
def Lx:Cx K:=aP [(150,.plain)] [aiY M.E7] [(2,ai0)]
theorem ai2:aI Lx:=aL ay _ (ae azU ak)
theorem azV:bg Lx (aW (aY Tryz.f207) 0) ai0:=lk (cx:=Lx) (sh:=aen) (run:=fun n x=>M.xh x.1.1 x.1.2.2.1 n x.1.2.2.2.1) (bh:=je) ai2 (fun m x=>by kernel_rfl) (ae ⟨bX,fun _ _ _=>rfl⟩ (ae ⟨bp,fun _ _ _=>rfl⟩ ak))
theorem azW:ai (ai1 (M.Ly)):=aG (cx:=Lx) true ai2 Tryz.func207 (hl1 azV) ⟨zs1,fun x=>x.1.1⟩ (fun x=>by kernel_rfl)
def ai3(m:(List M.aA)->Option Bool):an K:=cB 149 ⟨[.ah U.Func,.fn 150 []],[]⟩ (fun x=>m x.1.1)
def ai4:Cx K:=aP [(207,.plain)] [ai1 M.Ly] []
theorem azX:aI ai4:=aL ay _ (ae azW ak)
theorem azY:ai (ai3 (M.E8)):=aG (cx:=ai4) true azX Tryz.func149 hq ⟨zs0,fun x=>x.1.1⟩ (fun x=>by kernel_rfl)
def Ir(m:M.ax->Option ((List UInt8))):an K:=cS 152 sQ (fun x=>m x.1.1)
theorem OH:ai (Ir (M.mE)):=aG (cx:=dy) true dA Tryz.func152 hq ⟨cH,fun x=>x.1.1⟩ (fun x=>by kernel_rfl)
def azZ(y:Bool⊕((List M.ax)×(List (List UInt8)))){R:Type}(k:KT R):R:=match y with|.inl a0=>kk k Ex.ret yM (((),((),(a0,()))),((),((),())))|.inr a1=>kk k (Ex.exit 0) aeo ((a1.1,((),((),()))),((),(a1.2,())))
def az0:List (cC K ((Bool)⊕((List M.ax)×(List (List UInt8))))):=[⟨Ex.ret,yM,fun x=>.inl x.1.2.2.1⟩,⟨(Ex.exit 0),aeo,fun x=>.inr ((x.1.1,x.2.2.1))⟩]
def ai5:bf K:=bm D false 34 1 [0,3,7,8,9] [0,3,2] aep (fun x=>M.xi x.1.1 x.1.2.2.1 x.1.2.2.2.1 af x.1.2.2.2.2.1 x.2.2.1) azZ
def ZD(m:(List M.ax)->Option Bool):an K:=cB 105 adg (fun x=>m x.1.1)
def LA:Cx K:=aP [(148,.plain),(149,.plain),(152,.plain),(153,.plain)] [aiL M.E3,ai3 M.E8,Ir M.mE,PT M.ug] [(3,ai5)]
theorem ai6:aI LA:=aL ay _ (ae azH (ae azY (ae OH (ae aie ak))))
theorem az1:bg LA (aW (aY Tryz.f105) 0) ai5:=lk (cx:=LA) (sh:=aep) (run:=fun n x=>M.xi x.1.1 x.1.2.2.1 x.1.2.2.2.1 n x.1.2.2.2.2.1 x.2.2.1) (bh:=az0) ai6 (fun m x=>by kernel_rfl) (ae ⟨bX,fun _ _ _=>rfl⟩ (ae ⟨bp,fun _ _ _=>rfl⟩ ak))
theorem asN:ai (ZD (M.zh)):=aG (cx:=LA) true ai6 Tryz.func105 (hl1 az1) ⟨zs0,fun x=>x.1.1⟩ (fun x=>by kernel_rfl)
def ai7(m:M.ar->M.ar->Option Bool):an K:=cB 313 ⟨[.el U.Param,.el U.Param],[]⟩ (fun x=>m x.1.1 x.1.2.1)
def ai8:Cx K:=aP [(279,.plain)] [nD M.zu] []
theorem az2:aI ai8:=aL ay _ (ae agf ak)
theorem az3:ai (ai7 (M.E9)):=aG (cx:=ai8) true az2 Tryz.func313 hq ⟨zs0,fun x=>x.1.1⟩ (fun x=>by kernel_rfl)
def ai9:bf K:=bm D false 27 0 [0,1,5] [4] aeq (fun x=>M.xj x.1.1 x.1.2.1 af x.1.2.2.1) js
def aja(m:(List M.ar)->(List M.ar)->Option Bool):an K:=cB 278 ⟨[.ah U.Param,.ah U.Param],[]⟩ (fun x=>m x.1.1 x.1.2.1)
def LC:Cx K:=aP [(313,.plain)] [ai7 M.E9] [(4,ai9)]
theorem ajb:aI LC:=aL ay _ (ae az3 ak)
theorem az4:bg LC (aW (aY Tryz.f278) 0) ai9:=lk (cx:=LC) (sh:=aeq) (run:=fun n x=>M.xj x.1.1 x.1.2.1 n x.1.2.2.1) (bh:=jt) ajb (fun m x=>by kernel_rfl) (ae ⟨bX,fun _ _ _=>rfl⟩ (ae ⟨bp,fun _ _ _=>rfl⟩ ak))
theorem az5:ai (aja (M.Fa)):=aG (cx:=LC) true ajb Tryz.func278 (hl1 az4) ⟨zs0,fun x=>x.1.1⟩ (fun x=>by kernel_rfl)
def ajc(m:M.aJ->M.aJ->Option Bool):an K:=cB 235 ⟨[.el U.iS,.el U.iS],[]⟩ (fun x=>m x.1.1 x.1.2.1)
def ajd:Cx K:=aP [(278,.plain),(279,.plain)] [aja M.Fa,nD M.zu] []
theorem az6:aI ajd:=aL ay _ (ae az5 (ae agf ak))
theorem az7:ai (ajc (M.Fb)):=aG (cx:=ajd) true az6 Tryz.func235 hq ⟨zs0,fun x=>x.1.1⟩ (fun x=>by kernel_rfl)
def aje(m:M.aA->M.aA->Option Bool):an K:=cB 175 ⟨[.el U.Func,.el U.Func],[]⟩ (fun x=>m x.1.1 x.1.2.1)
def ajf:Cx K:=aP [(235,.plain)] [ajc M.Fb] []
theorem az8:aI ajf:=aL ay _ (ae az7 ak)
theorem az9:ai (aje (M.Fe)):=aG (cx:=ajf) true az8 Tryz.func175 hq ⟨zs0,fun x=>x.1.1⟩ (fun x=>by kernel_rfl)
def ajg:bf K:=bm D false 27 0 [0,1,5] [4] aer (fun x=>M.xk x.1.1 x.1.2.1 af x.1.2.2.1) js
def ajh(m:(List M.aA)->(List M.aA)->Option Bool):an K:=cB 123 ⟨[.ah U.Func,.ah U.Func],[]⟩ (fun x=>m x.1.1 x.1.2.1)
def LD:Cx K:=aP [(175,.plain)] [aje M.Fe] [(4,ajg)]
theorem aji:aI LD:=aL ay _ (ae az9 ak)
theorem aAa:bg LD (aW (aY Tryz.f123) 0) ajg:=lk (cx:=LD) (sh:=aer) (run:=fun n x=>M.xk x.1.1 x.1.2.1 n x.1.2.2.1) (bh:=jt) aji (fun m x=>by kernel_rfl) (ae ⟨bX,fun _ _ _=>rfl⟩ (ae ⟨bp,fun _ _ _=>rfl⟩ ak))
theorem aAb:ai (ajh (M.Ff)):=aG (cx:=LD) true aji Tryz.func123 (hl1 aAa) ⟨zs0,fun x=>x.1.1⟩ (fun x=>by kernel_rfl)
def ajj(m:M.ax->M.ax->Option Bool):an K:=cB 69 ⟨[.el U.aS,.el U.aS],[]⟩ (fun x=>m x.1.1 x.1.2.1)
def ajk:Cx K:=aP [(122,.plain),(123,.plain)] [PG M.wM,ajh M.Ff] []
theorem aAc:aI ajk:=aL ay _ (ae af9 (ae aAb ak))
theorem aAd:ai (ajj (M.Fg)):=aG (cx:=ajk) true aAc Tryz.func69 hq ⟨zs0,fun x=>x.1.1⟩ (fun x=>by kernel_rfl)
def ajl:bf K:=bm D false 27 0 [0,1,5] [4] Vi (fun x=>M.xl x.1.1 x.1.2.1 af x.1.2.2.1) js
def XU(m:(List M.ax)->(List M.ax)->Option Bool):an K:=cB 31 ⟨[.ah U.aS,.ah U.aS],[]⟩ (fun x=>m x.1.1 x.1.2.1)
def LF:Cx K:=aP [(69,.plain)] [ajj M.Fg] [(4,ajl)]
theorem ajm:aI LF:=aL ay _ (ae aAd ak)
theorem aAe:bg LF (aW (aY Tryz.f31) 0) ajl:=lk (cx:=LF) (sh:=Vi) (run:=fun n x=>M.xl x.1.1 x.1.2.1 n x.1.2.2.1) (bh:=jt) ajm (fun m x=>by kernel_rfl) (ae ⟨bX,fun _ _ _=>rfl⟩ (ae ⟨bp,fun _ _ _=>rfl⟩ ak))
theorem arp:ai (XU (M.yY)):=aG (cx:=LF) true ajm Tryz.func31 (hl1 aAe) ⟨zs0,fun x=>x.1.1⟩ (fun x=>by kernel_rfl)
def ajn(m:M.bF->Int->Option Int):an K:=cI 46 ⟨[.el U.dK,iq0],[]⟩ (fun x=>m x.1.1 x.1.2.1)
theorem aAf:ai (ajn (M.Fh)):=aG (cx:=dy) true dA Tryz.func46 hq ⟨zs1,fun x=>x.1.1⟩ (fun x=>by kernel_rfl)
def ajo:bf K:=bm D false 27 0 [0,1,5] [1,4] Vn (fun x=>M.xm x.1.1 af x.1.2.1 x.1.2.2.1) pK
def Ve(m:(List M.bF)->Int->Option Int):an K:=cI 17 ⟨[.ah U.dK,iq0],[]⟩ (fun x=>m x.1.1 x.1.2.1)
def LG:Cx K:=aP [(46,.plain)] [ajn M.Fh] [(5,ajo)]
theorem ajp:aI LG:=aL ay _ (ae aAf ak)
theorem aAg:bg LG (aW (aY Tryz.f17) 0) ajo:=lk (cx:=LG) (sh:=Vn) (run:=fun n x=>M.xm x.1.1 n x.1.2.1 x.1.2.2.1) (bh:=pL) ajp (fun m x=>by kernel_rfl) (ae ⟨bX,fun _ _ _=>rfl⟩ (ae ⟨bp,fun _ _ _=>rfl⟩ ak))
theorem apz:ai (Ve (M.CE)):=aG (cx:=LG) true ajp Tryz.func17 (hl1 aAg) ⟨zs1,fun x=>x.1.1⟩ (fun x=>by kernel_rfl)
def ajq(m:M.bC->Int->Option Int):an K:=cI 47 ⟨[.el U.Lower,iq0],[]⟩ (fun x=>m x.1.1 x.1.2.1)
theorem aAh:ai (ajq (M.Fj)):=aG (cx:=dy) true dA Tryz.func47 hq ⟨zs1,fun x=>x.1.1⟩ (fun x=>by kernel_rfl)
def ajr:bf K:=bm D false 27 0 [0,1,5] [1,4] Vs (fun x=>M.xn x.1.1 af x.1.2.1 x.1.2.2.1) pK
def Vf(m:(List M.bC)->Int->Option Int):an K:=cI 18 ⟨[.ah U.Lower,iq0],[]⟩ (fun x=>m x.1.1 x.1.2.1)
def LH:Cx K:=aP [(47,.plain)] [ajq M.Fj] [(5,ajr)]
theorem ajs:aI LH:=aL ay _ (ae aAh ak)
theorem aAi:bg LH (aW (aY Tryz.f18) 0) ajr:=lk (cx:=LH) (sh:=Vs) (run:=fun n x=>M.xn x.1.1 n x.1.2.1 x.1.2.2.1) (bh:=pL) ajs (fun m x=>by kernel_rfl) (ae ⟨bX,fun _ _ _=>rfl⟩ (ae ⟨bp,fun _ _ _=>rfl⟩ ak))
theorem apA:ai (Vf (M.CG)):=aG (cx:=LH) true ajs Tryz.func18 (hl1 aAi) ⟨zs1,fun x=>x.1.1⟩ (fun x=>by kernel_rfl)
def ajt(m:M.bu->Int->Option Int):an K:=cI 48 ⟨[.el U.Builtin,iq0],[]⟩ (fun x=>m x.1.1 x.1.2.1)
theorem aAj:ai (ajt (M.Fo)):=aG (cx:=dy) true dA Tryz.func48 hq ⟨zs1,fun x=>x.1.1⟩ (fun x=>by kernel_rfl)
def aju:bf K:=bm D false 27 0 [0,1,5] [1,4] V1 (fun x=>M.xo x.1.1 af x.1.2.1 x.1.2.2.1) pK
def U7(m:(List M.bu)->Int->Option Int):an K:=cI 19 ⟨[.ah U.Builtin,iq0],[]⟩ (fun x=>m x.1.1 x.1.2.1)
def Hj:Cx K:=aP [(48,.plain)] [ajt M.Fo] [(5,aju)]
theorem U8:aI Hj:=aL ay _ (ae aAj ak)
theorem apv:bg Hj (aW (aY Tryz.f19) 0) aju:=lk (cx:=Hj) (sh:=V1) (run:=fun n x=>M.xo x.1.1 n x.1.2.1 x.1.2.2.1) (bh:=pL) U8 (fun m x=>by kernel_rfl) (ae ⟨bX,fun _ _ _=>rfl⟩ (ae ⟨bp,fun _ _ _=>rfl⟩ ak))
theorem apu:ai (U7 (M.Cm)):=aG (cx:=Hj) true U8 Tryz.func19 (hl1 apv) ⟨zs1,fun x=>x.1.1⟩ (fun x=>by kernel_rfl)
def U9(m:M.aV->Int->Option Int):an K:=cI 5 ⟨[.el U.eM,iq0],[]⟩ (fun x=>m x.1.1 x.1.2.1)
def Va:Cx K:=aP [(15,.plain),(16,.plain),(17,.plain),(18,.plain),(19,.plain)] [Vb M.yJ,Vd M.CC,Ve M.CE,Vf M.CG,U7 M.Cm] []
theorem apw:aI Va:=aL ay _ (ae apx (ae apy (ae apz (ae apA (ae apu ak)))))
theorem apB:ai (U9 (M.CH)):=aG (cx:=Va) true apw Tryz.func5 hq ⟨zs1,fun x=>x.1.1⟩ (fun x=>by kernel_rfl)
def apR(y:Bool⊕(M.aN)){R:Type}(k:KT R):R:=match y with|.inl a0=>kk k Ex.ret adh (((),(a0,())),((),()))|.inr a1=>kk k (Ex.exit 0) ⟨[.ptr 0 0,.any],[.el U.Module]⟩ (((),((),())),(a1,()))
def apS:List (cC K ((Bool)⊕(M.aN))):=[⟨Ex.ret,adh,fun x=>.inl x.1.2.1⟩,⟨(Ex.exit 0),⟨[.ptr 0 0,.any],[.el U.Module]⟩,fun x=>.inr (x.2.1)⟩]
def Vv:bf K:=bm D false 82 1 [1,3] [1,2] zo (fun x=>M.vO x.2.1 af x.1.2.1) apR
def N9(m:M.aE->Option Bool):an K:=cB 247 HJ (fun x=>m x.1.1)
def Vw:Cx K:=aP [(248,.plain),(89,.plain)] [Oa M.yu,pz M.pA] []
theorem apT:aI Vw:=aL ay _ (ae Vx (ae qN ak))
theorem Vy:ai (N9 (M.yN)):=aG (cx:=Vw) true apT Tryz.func247 hq ⟨zs0,fun x=>x.1.1⟩ (fun x=>by kernel_rfl)
def Vz:bf K:=bm D false 40 1 [1,3] [2] ⟨[.ptr 0 0,iq0],[.el U.Core]⟩ (fun x=>M.vP x.2.1 af x.1.2.1) sB
def VA(m:M.av->Option Bool):an K:=cB 192 zb (fun x=>m x.1.1)
def Hu:Cx K:=aP [(190,.plain),(89,.plain),(247,.plain)] [Oc M.vQ,pz M.pA,N9 M.yN] [(4,Vz)]
theorem VB:aI Hu:=aL ay _ (ae VC (ae qN (ae Vy ak)))
theorem apU:bg Hu (aW (aY Tryz.f192) 0) Vz:=lk (cx:=Hu) (sh:=⟨[.ptr 0 0,iq0],[.el U.Core]⟩) (run:=fun n x=>M.vP x.2.1 n x.1.2.1) (bh:=sC) VB (fun m x=>by kernel_rfl) (ae ⟨bX,fun _ _ _=>rfl⟩ (ae ⟨bp,fun _ _ _=>rfl⟩ ak))
theorem apV:ai (VA (M.CP)):=aG (cx:=Hu) true VB Tryz.func192 (hl1 apU) ⟨zs0,fun x=>x.1.1⟩ (fun x=>by kernel_rfl)
def VD:bf K:=bm D false 82 1 [1,5] [2] zo (fun x=>M.vR x.2.1 af x.1.2.1) VE
def Oe(m:M.aN->Option Bool):an K:=cB 141 ly (fun x=>m x.1.1)
def yO:Cx K:=aP [(89,.plain),(190,.plain),(191,.plain),(192,.plain),(193,.plain)] [pz M.pA,Oc M.vQ,VF M.CQ,VA M.CP,VG M.CS] [(4,Vv),(10,VD)]
theorem Of:aI yO:=aL ay _ (ae qN (ae VC (ae apW (ae apV (ae apX ak)))))
theorem apY:bg yO (aW (aY Tryz.f141) 0) Vv:=lk (cx:=yO) (sh:=zo) (run:=fun n x=>M.vO x.2.1 n x.1.2.1) (bh:=apS) Of (fun m x=>by kernel_rfl) (ae ⟨bX,fun _ _ _=>rfl⟩ (ae ⟨bp,fun _ _ _=>rfl⟩ ak))
theorem apZ:bg yO (aW (aY Tryz.f141) 1) VD:=lk (cx:=yO) (sh:=zo) (run:=fun n x=>M.vR x.2.1 n x.1.2.1) (bh:=VH) Of (fun m x=>by kernel_rfl) (ae ⟨bX,fun _ _ _=>rfl⟩ (ae ⟨bp,fun _ _ _=>rfl⟩ ak))
theorem VI:ai (Oe (M.vS)):=aG (cx:=yO) true Of Tryz.func141 (hl2 apY apZ) ⟨zs0,fun x=>x.1.1⟩ (fun x=>by kernel_rfl)
def VJ(y:(Int×Int×Int)⊕Unit){R:Type}(k:KT R):R:=match y with|.inl a0=>kk k Ex.ret HQ ((a0.1,(a0.2.1,(a0.2.2,()))),((),()))|.inr a1=>kk k (Ex.exit 0) WJ (((),((),((),()))),((),()))
def VM:List (cC K ((Int×Int×Int)⊕Unit)):=[⟨Ex.ret,HQ,fun x=>.inl (x.1.1,x.1.2.1,x.1.2.2.1)⟩,⟨(Ex.exit 0),WJ,fun x=>.inr (())⟩]
def VN:bf K:=bm D false 33 1 [1,5] [2,3,4] zo (fun x=>M.sD x.2.1 af x.1.2.1) VJ
def VO(m:M.aN->Option (Int×Int×Int)):an K:={f:=184,sh:=ly,R:=Int×Int×Int,run:=fun x=>m x.1.1,dflt:=default,out:=fun r=>(Sh.enc D (.bQ [iq0,iq0,iq0]) (r.1,(r.2.1,(r.2.2,()))),bk.encs D [] ())}
def Hw:Cx K:=aP [(141,.plain),(243,.fm)] [Oe M.vS,VP M.CU] [(4,VN)]
theorem VQ:aI Hw:=aL ay _ (ae VI (ae ap0 ak))
theorem ap1:bg Hw (aW (aY Tryz.f184) 0) VN:=lk (cx:=Hw) (sh:=zo) (run:=fun n x=>M.sD x.2.1 n x.1.2.1) (bh:=VM) VQ (fun m x=>by kernel_rfl) (ae ⟨bX,fun _ _ _=>rfl⟩ (ae ⟨bp,fun _ _ _=>rfl⟩ ak))
theorem ap2:ai (VO (M.CV)):=aG (cx:=Hw) true VQ Tryz.func184 (hl1 ap1) ⟨adp,fun x=>(x.1.1.1,x.1.1.2.1,x.1.1.2.2.1)⟩ (fun x=>by kernel_rfl)
def VR(m:M.aN->Option Bool):an K:=cB 134 ly (fun x=>m x.1.1)
def VS:Cx K:=aP [(184,.plain)] [VO M.CV] []
theorem ap3:aI VS:=aL ay _ (ae ap2 ak)
theorem ap4:ai (VR (M.Hy)):=aG (cx:=VS) true ap3 Tryz.func134 hq ⟨zs0,fun x=>x.1.1⟩ (fun x=>by kernel_rfl)
def VT(m:M.aN->Option Bool):an K:=cB 90 ly (fun x=>m x.1.1)
def VU:Cx K:=aP [(134,.plain)] [VR M.Hy] []
theorem ap5:aI VU:=aL ay _ (ae ap4 ak)
theorem ap6:ai (VT (M.CW)):=aG (cx:=VU) true ap5 Tryz.func90 hq ⟨zs0,fun x=>x.1.1⟩ (fun x=>by kernel_rfl)
def VV(y:Int⊕Unit){R:Type}(k:KT R):R:=match y with|.inl a0=>kk k Ex.ret WL ((a0,()),((),()))|.inr a1=>kk k (Ex.exit 0) yP (((),()),((),()))
def VX:List (cC K ((Int)⊕Unit)):=[⟨Ex.ret,WL,fun x=>.inl x.1.1⟩,⟨(Ex.exit 0),yP,fun x=>.inr (())⟩]
def VY:bf K:=bm D false 22 1 [1,2,5] [4] WQ (fun x=>M.vv x.1.1 x.2.1 af x.1.2.2.1) VV
def VZ(m:M.aN->(List UInt8)->Option Int):an K:=cI 135 H7 (fun x=>m x.1.1 x.1.2.1)
def HC:Cx K:=aP [] [] [(2,VY)]
theorem V0:aI HC:=aL ay _ ak
theorem ap7:bg HC (aW (aY Tryz.f135) 0) VY:=lk (cx:=HC) (sh:=WQ) (run:=fun n x=>M.vv x.1.1 x.2.1 n x.1.2.2.1) (bh:=VX) V0 (fun m x=>by kernel_rfl) (ae ⟨bX,fun _ _ _=>rfl⟩ (ae ⟨bp,fun _ _ _=>rfl⟩ ak))
theorem ap8:ai (VZ (M.BW)):=aG (cx:=HC) true V0 Tryz.func135 (hl1 ap7) ⟨zs1,fun x=>x.1.1⟩ (fun x=>by kernel_rfl)
def sE(m:M.aa->Option (M.aa)):an K:={f:=244,sh:=zs7,R:=M.aa,run:=fun x=>m x.1.1,dflt:=default,out:=fun r=>(Sh.enc D (.el U.Type) r,bk.encs D [] ())}
def ap9(y:Int×(List UInt8)×Int×(List UInt8)×(List (List UInt8))×(List M.aa)×(List (List UInt8))×(List M.aa)){R:Type}(k:KT R):R:=match y with|a0=>kk k (Ex.exit 0) V3 (((),((),())),((),((a0.1,(a0.2.1,((),((),())))),((a0.2.2.1,(a0.2.2.2.1,((),((),())))),((),((),((),((),(a0.2.2.2.2.1,(a0.2.2.2.2.2.1,(a0.2.2.2.2.2.2.1,(a0.2.2.2.2.2.2.2,()))))))))))))
def aqa:List (cC K (Int×(List UInt8)×Int×(List UInt8)×(List (List UInt8))×(List M.aa)×(List (List UInt8))×(List M.aa))):=[⟨(Ex.exit 0),V3,fun x=>(x.2.2.1.1,x.2.2.1.2.1,x.2.2.2.1.1,x.2.2.2.1.2.1,x.2.2.2.2.2.2.2.2.1,x.2.2.2.2.2.2.2.2.2.1,x.2.2.2.2.2.2.2.2.2.2.1,x.2.2.2.2.2.2.2.2.2.2.2.1)⟩]
def V2(f6:M.aa->Option (M.aa)):bf K:=bm D false 33 7 [1,2,3,4] [2,3] V7 (fun x=>M.sF f6 x.2.2.1.1 x.2.2.1.2.1 x.2.2.2.1.1 x.2.2.2.1.2.1 x.2.2.2.2.2.2.2.2.1 x.2.2.2.2.2.2.2.2.2.1 x.2.2.2.2.2.2.2.2.2.2.1 af x.1.2.2.2.1 x.2.1 x.2.2.2.2.2.2.2.2.2.2.2.1) ap9
def HD(f6:M.aa->Option (M.aa)):Cx K:=aP [(244,.fm)] [sE f6] [(3,V2 f6)]
theorem V4(f6:M.aa->Option (M.aa))(yQ:ai (sE f6)):aI (HD f6):=aL ay _ (ae yQ ak)
theorem aqb(f6:M.aa->Option (M.aa))(yQ:ai (sE f6)):bg (HD f6) (aW (aY Tryz.f244) 0) (V2 f6):=lk (cx:=HD f6) (sh:=V7) (run:=fun n x=>M.sF f6 x.2.2.1.1 x.2.2.1.2.1 x.2.2.2.1.1 x.2.2.2.1.2.1 x.2.2.2.2.2.2.2.2.1 x.2.2.2.2.2.2.2.2.2.1 x.2.2.2.2.2.2.2.2.2.2.1 n x.1.2.2.2.1 x.2.1 x.2.2.2.2.2.2.2.2.2.2.2.1) (bh:=aqa) (V4 f6 yQ) (fun m x=>by kernel_rfl) (ae ⟨bp,fun _ _ _=>rfl⟩ ak)
