/-
  Part of the proof of the claim.
-/
import Derived.Test.YtadnfbiaknpllaaGreatDoorXZSM
import Derived.Test.YtadnfbiaknpllaaGreatDoorXXHdA
import Derived.Test.YtadnfbiaknpllaaGreatDoorXXHdI
import Derived.Test.YtadnfbiaknpllaaGreatDoorXXHdJ2
import Derived.Test.YtadnfbiaknpllaaGreatDoorXXHdV
import Derived.Test.YtadnfbiaknpllaaGreatDoorXWgD
import Derived.Test.YtadnfbiaknpllaaGreatDoorProg
set_option linter.unusedVariables false
set_option maxRecDepth 100000
open Go Go.Proofs
open Go.V
noncomputable section
abbrev iq0:Go.V.Sh Go.V.K:=.int .i64
abbrev iq2:=Go.V.aJ Go.V.K
abbrev zs0:iq2:=⟨[.bool],[]⟩
abbrev zs1:iq2:=⟨[.str],[]⟩
abbrev zs2:iq2:=⟨[.any],[]⟩
abbrev jl:iq2:=⟨[iq0],[]⟩
abbrev oh:iq2:=⟨[.ptr 0 0],[.el U.dr]⟩
abbrev sH:iq2:=⟨[.str,iq0],[]⟩
abbrev sJ:iq2:=⟨[.str,iq0,iq0],[]⟩
abbrev uU:iq2:=⟨[.ptr 0 0],[.el U.parser]⟩
abbrev HH:iq2:=⟨[],[.box [.ax U.Token,iq0,.bool],.box [.ptr 0 0],.box [iq0,.str,iq0,.str,.own 7,.own 8,.own 9,.bool,.str,.str,.str,.own 10],.dead,.dead,.dead,.dead,.arr U.str,.arr U.Term,.arr U.dV,.arr U.eA]⟩
abbrev uN:iq2:=⟨[.el U.ba],[]⟩
abbrev uQ:iq2:=⟨[.ptr 0 0,.str,iq0],[.el U.ba]⟩
abbrev wW:iq2:=⟨[.str,.str],[]⟩
abbrev zE:iq2:=⟨[.int .u8],[]⟩
abbrev zF:iq2:=⟨[.ptr 0 0],[.box [.str,iq0,iq0,.own 2],.dead,.arr U.Token]⟩
abbrev zG:iq2:=⟨[.str],[.el U.parser]⟩
abbrev zu:iq2:=⟨[.str],[.dead]⟩
abbrev zw:iq2:=⟨[.any,.any,.bool],[.dead,.dead]⟩
abbrev Gs:iq2:=⟨[.bool],[.dead,.dead]⟩
abbrev Gt:iq2:=⟨[.any],[.dead,.dead]⟩
abbrev zC:iq2:=⟨[.ptr 2 0,.ptr 3 0],[.box [.ax U.u8,iq0,.int .u64],.arr U.str,.box [iq0,.str,.own 8,.own 9],.box [iq0,.str,.own 10,.own 11],.dead,.dead,.dead,.dead,.arr U.str,.arr U.Term,.arr U.str,.arr U.Term]⟩
abbrev C6:iq2:=⟨[.ax U.str],[]⟩
abbrev HA:iq2:=⟨[.bA [iq0,iq0]],[]⟩
abbrev Zp:iq2:=⟨[.any,iq0],[]⟩
abbrev Zq:iq2:=⟨[iq0,.any],[]⟩
abbrev HJ:iq2:=⟨[],[.box [.str,iq0,iq0,.own 2],.dead,.arr U.Token]⟩
abbrev GZ:iq2:=⟨[.any],[.dead]⟩
abbrev HK:iq2:=⟨[.ptr 0 0,.str],[.el U.dr]⟩
abbrev HM:iq2:=⟨[.ptr 0 0,.str],[.el U.parser]⟩
abbrev HO:iq2:=⟨[],[.box [.ax U.Token,iq0,.bool],.box [iq0,.str,.own 6,.own 7],.box [.ptr 0 0],.box [iq0],.dead,.dead,.arr U.str,.arr U.Term]⟩
abbrev HQ:iq2:=⟨[],[.box [.ax U.Token,iq0,.bool],.box [.ptr 0 0],.box [iq0,.str,.own 7,.own 8],.box [.fn 202 [.ptr 2 0,.ptr 1 0,.ptr 6 0]],.dead,.dead,.box [iq0],.arr U.str,.arr U.Term]⟩
abbrev HS:iq2:=⟨[.ptr 0 0,.ptr 1 0,.ptr 2 0],[.el U.parser,.box [.str,.own 5],.box [.str,.own 6],.dead,.dead,.arr U.Item,.arr U.Item]⟩
abbrev HU:iq2:=⟨[.ptr 0 0,.ptr 1 0,.ptr 2 0],[.el U.parser,.box [.str,.own 5],.box [.str,.own 6],.dead,.dead,.arr U.fy,.arr U.fy]⟩
abbrev Zr:iq2:=⟨[.ptr 1 0,.ptr 2 0],[.box [.ax U.Token,iq0,.bool],.box [.str,.str,.own 7,.own 8],.box [.str,.str,.own 9,.own 10],.dead,.dead,.dead,.dead,.arr U.dn,.arr U.dR,.arr U.dn,.arr U.dR]⟩
abbrev HV:iq2:=⟨[.ptr 0 0,.own 6,.own 7,.ptr 3 0,.own 8,.own 9,.ax U.dn,iq0,iq0,.ax U.Item,iq0,iq0],[.el U.ba,.dead,.dead,.el U.dn,.dead,.dead,.arr U.str,.arr U.str,.arr U.str,.arr U.str]⟩
abbrev Zs:iq2:=⟨[.any,.any,.any,.bool],[.dead,.dead,.dead,.dead,.dead]⟩
abbrev Zt:iq2:=⟨[.ptr 0 0,.own 3,.own 4,.any],[.el U.ba,.dead,.dead,.arr U.str,.arr U.str]⟩
abbrev Gj:iq2:=⟨[.own 3,.own 4],[.dead,.dead,.dead,.arr U.str,.arr U.str]⟩
abbrev Gk:iq2:=⟨[.ptr 0 0,.own 3,.own 4,iq0],[.el U.ba,.dead,.dead,.arr U.str,.arr U.str]⟩
abbrev Gq:iq2:=⟨[.ptr 0 0,.ptr 1 0,iq0],[.el U.Term,.el U.Term]⟩
abbrev GG:iq2:=⟨[.ptr 0 0,.ptr 1 0,.ax U.dn,iq0,iq0],[.el U.ba,.box [.np 1,.own 3],.dead,.arr U.u8]⟩
abbrev GH:iq2:=⟨[.ptr 0 0,.own 3,.ax U.dR,iq0,iq0],[.box [.np 0,.own 4],.dead,.dead,.arr U.str,.arr U.u8]⟩
abbrev GQ:iq2:=⟨[.any,.bool],[.dead]⟩
abbrev GU:iq2:=⟨[.any,.any,.bool],[.dead]⟩
abbrev GV:iq2:=⟨[.ptr 0 0,iq0,.any],[.el U.ba]⟩
abbrev GX:iq2:=⟨[.ptr 0 0,iq0,iq0],[.el U.ba]⟩
abbrev GY:iq2:=⟨[.ptr 0 0,iq0],[.el U.ba]⟩
abbrev G0:iq2:=⟨[.ptr 0 0,.str,iq0],[.el U.Item]⟩
abbrev G5:iq2:=⟨[.ptr 0 0,.str,iq0,iq0],[.el U.ba]⟩
abbrev G6:iq2:=⟨[.ptr 0 0,.ptr 1 0,iq0],[.el U.Item,.el U.Item]⟩
abbrev G7:iq2:=⟨[.any,.any,.any,.bool],[.dead,.dead]⟩
abbrev G8:iq2:=⟨[.ptr 0 0,.ptr 1 0,iq0,.any],[.el U.ba,.el U.ba]⟩
abbrev G9:iq2:=⟨[.ptr 0 0,.ptr 1 0,iq0,iq0],[.el U.ba,.el U.ba]⟩
abbrev Ha:iq2:=⟨[.ptr 0 0,.ptr 1 0,iq0],[.el U.ba,.el U.ba]⟩
abbrev Hk:iq2:=⟨[.ptr 0 0,.own 1,iq0,.ptr 2 0,.ptr 3 0,iq0,iq0],[.el U.dS,.arr U.str,.box [iq0,.str,.own 8,.own 9],.box [iq0,.str,.own 10,.own 11],.dead,.dead,.dead,.dead,.arr U.str,.arr U.Term,.arr U.str,.arr U.Term]⟩
abbrev Hm:iq2:=⟨[.ptr 0 0,.ptr 1 0,.ptr 2 0,.own 6,iq0],[.el U.dS,.box [.str,.own 7],.box [.str,.own 8],.dead,.dead,.dead,.arr U.str,.arr U.Item,.arr U.Item]⟩
abbrev NN:iq2:=⟨[.bA []],[.el U.dr]⟩
abbrev NP:iq2:=⟨[.str],[.el U.dr]⟩
abbrev NQ:iq2:=⟨[.bA []],[.el U.parser,.box [iq0,.str,.own 6,.own 7],.box [.ptr 0 0],.box [iq0],.dead,.dead,.arr U.str,.arr U.Term]⟩
abbrev NR:iq2:=⟨[.el U.Item],[.el U.dr]⟩
abbrev NB:iq2:=⟨[iq0],[.el U.dS]⟩
abbrev NH:iq2:=⟨[.ax U.ba],[]⟩
abbrev Zu:iq2:=⟨[.any,.any,.any,.any,iq0],[]⟩
abbrev Zv:iq2:=⟨[.str,iq0,iq0,iq0,.any],[]⟩
abbrev Zw:iq2:=⟨[.str,iq0,iq0,iq0,iq0],[]⟩
abbrev Zx:iq2:=⟨[iq0,.ax U.str,iq0,iq0],[]⟩
abbrev Zy:iq2:=⟨[.ax U.str,.str,iq0,iq0],[]⟩
abbrev Zz:iq2:=⟨[.any,.any,iq0,iq0],[]⟩
abbrev ZA:iq2:=⟨[iq0,iq0,.any,.any],[]⟩
abbrev ZB:iq2:=⟨[.any,.any,.own 2,iq0,iq0],[.dead,.dead,.arr U.Token]⟩
abbrev ZC:iq2:=⟨[.own 1,iq0,.any,.any,.any],[.dead,.arr U.Token]⟩
abbrev ZD:iq2:=⟨[.str,.own 1,iq0,iq0],[.dead,.arr U.Token]⟩
abbrev ZE:iq2:=⟨[.bA [.ax U.Token,iq0,iq0]],[]⟩
abbrev ZF:iq2:=⟨[.any,.dt,iq0,iq0],[.dead,.dead,.dead]⟩
abbrev ZG:iq2:=⟨[.ptr 0 0,.any,.any,.any],[.box [.str,iq0,iq0,.own 2],.dead,.arr U.Token]⟩
abbrev ZH:iq2:=⟨[.str,.ptr 0 0],[.box [.str,iq0,iq0,.own 2],.dead,.arr U.Token]⟩
abbrev ZI:iq2:=⟨[.str,.own 1,iq0],[.dead,.arr U.str]⟩
abbrev ZJ:iq2:=⟨[.ptr 0 0,iq0,.fn 202 [.ptr 1 0,.ptr 2 0,.ptr 3 0],iq0],[.el U.parser,.box [iq0,.str,.own 6,.own 7],.box [.ptr 0 0],.box [iq0],.dead,.dead,.arr U.str,.arr U.Term]⟩
abbrev ZK:iq2:=⟨[],[.box [iq0,.str,.own 3,.own 4],.dead,.dead,.arr U.str,.arr U.Term]⟩
abbrev ZL:iq2:=⟨[.ptr 0 0],[.box [iq0,.str,.own 3,.own 4],.dead,.dead,.arr U.str,.arr U.Term]⟩
abbrev ZM:iq2:=⟨[.ptr 0 0,.ptr 1 0,.fn 202 [.ptr 1 0,.ptr 2 0,.ptr 3 0]],[.el U.parser,.box [iq0,.str,.own 4,.own 5],.box [.ptr 0 0],.box [iq0],.arr U.str,.arr U.Term]⟩
abbrev ZN:iq2:=⟨[.ptr 0 0,iq0,.fn 204 [.ptr 1 0,.ptr 2 0,.ptr 3 0],iq0],[.el U.parser,.box [.ptr 0 0],.box [iq0,.str,.own 7,.own 8],.box [.fn 202 [.ptr 2 0,.ptr 1 0,.ptr 6 0]],.dead,.dead,.box [iq0],.arr U.str,.arr U.Term]⟩
abbrev ZO:iq2:=⟨[.ptr 0 0,.ptr 1 0],[.box [.ptr 2 0],.box [iq0,.str,iq0,.str,.own 3,.own 4,.own 5,.bool,.str,.str,.str,.own 6],.box [.ax U.Token,iq0,.bool],.arr U.str,.arr U.Term,.arr U.dV,.arr U.eA]⟩
abbrev ZP:iq2:=⟨[.bA []],[.box [.ptr 2 0],.box [iq0,.str,iq0,.str,.own 7,.own 8,.own 9,.bool,.str,.str,.str,.own 10],.box [.ax U.Token,iq0,.bool],.dead,.dead,.dead,.dead,.arr U.str,.arr U.Term,.arr U.dV,.arr U.eA]⟩
abbrev ZQ:iq2:=⟨[.ptr 0 0,iq0,.fn 198 [.ptr 1 0,.ptr 2 0],iq0],[.el U.parser,.box [.ptr 0 0],.box [iq0,.str,iq0,.str,.own 7,.own 8,.own 9,.bool,.str,.str,.str,.own 10],.dead,.dead,.dead,.dead,.arr U.str,.arr U.Term,.arr U.dV,.arr U.eA]⟩
abbrev ZR:iq2:=⟨[.bA []],[.el U.parser,.box [.ptr 0 0],.box [iq0,.str,iq0,.str,.own 7,.own 8,.own 9,.bool,.str,.str,.str,.own 10],.dead,.dead,.dead,.dead,.arr U.str,.arr U.Term,.arr U.dV,.arr U.eA]⟩
abbrev ZS:iq2:=⟨[.ptr 0 0,iq0,.fn 177 [.ptr 1 0,.ptr 2 0],iq0],[.el U.parser,.box [.ptr 0 0],.box [iq0,.str,iq0,.str,.own 7,.own 8,.own 9,.bool,.str,.str,.str,.own 10],.dead,.dead,.dead,.dead,.arr U.str,.arr U.Term,.arr U.dV,.arr U.eA]⟩
abbrev ZT:iq2:=⟨[],[.box [.ax U.Token,iq0,.bool],.box [iq0,.str,.own 4,.own 5],.dead,.dead,.arr U.str,.arr U.Term]⟩
abbrev ZU:iq2:=⟨[.ptr 0 0,.ptr 1 0,iq0],[.el U.dr,.box [iq0,.str,.own 4,.own 5],.dead,.dead,.arr U.str,.arr U.Term]⟩
abbrev ZV:iq2:=⟨[.ptr 1 0,.ptr 2 0],[.box [.ax U.Token,iq0,.bool],.box [iq0,.str,.own 7,.own 8],.box [iq0,.str,.own 9,.own 10],.dead,.dead,.dead,.dead,.arr U.str,.arr U.Term,.arr U.str,.arr U.Term]⟩
abbrev ZW:iq2:=⟨[.ptr 0 0,iq0,.ptr 1 0,.ptr 2 0],[.el U.dr,.box [iq0,.str,.own 7,.own 8],.box [iq0,.str,.own 9,.own 10],.dead,.dead,.dead,.dead,.arr U.str,.arr U.Term,.arr U.str,.arr U.Term]⟩
abbrev ZX:iq2:=⟨[.ptr 0 0,.ptr 1 0,.ptr 2 0],[.el U.parser,.box [.str,.str,.own 7,.own 8],.box [.str,.str,.own 9,.own 10],.dead,.dead,.dead,.dead,.arr U.dn,.arr U.dR,.arr U.dn,.arr U.dR]⟩
abbrev ZY:iq2:=⟨[.ptr 0 0,.own 6,.own 7,.ptr 3 0,.own 8,.own 9,.ax U.dn,iq0,iq0,.ax U.Item,iq0,iq0,.ax U.eA,iq0,iq0],[.el U.ba,.dead,.dead,.el U.dn,.dead,.dead,.arr U.str,.arr U.str,.arr U.str,.arr U.str]⟩
abbrev ZZ:iq2:=⟨[.ptr 0 0,.own 6,.own 7,.ptr 3 0,.own 8,.own 9,.ax U.dn,iq0,iq0],[.el U.ba,.dead,.dead,.el U.dn,.dead,.dead,.arr U.str,.arr U.str,.arr U.str,.arr U.str]⟩
abbrev Z0:iq2:=⟨[.ptr 0 0,.own 3,.own 4,.ax U.dn,iq0,iq0],[.el U.ba,.dead,.dead,.arr U.str,.arr U.str]⟩
abbrev Z1:iq2:=⟨[.own 2,.own 3],[.dead,.dead,.arr U.str,.arr U.str]⟩
abbrev Z2:iq2:=⟨[.own 2,.own 3,.ax U.dR,iq0,iq0],[.dead,.dead,.arr U.str,.arr U.str]⟩
abbrev VH:iq2:=⟨[.bA [.el U.ba,iq0,iq0]],[]⟩
abbrev Z3:iq2:=⟨[.own 2],[.box [.ax U.Token,iq0,.bool],.dead,.arr U.dV]⟩
abbrev Z4:iq2:=⟨[.ptr 0 0,.own 2],[.el U.dr,.dead,.arr U.dV]⟩
abbrev Z5:iq2:=⟨[.ptr 1 0,.ptr 2 0],[.box [.ax U.Token,iq0,.bool],.box [iq0,.str,iq0,.str,.own 11,.own 12,.own 13,.bool,.str,.str,.str,.own 14],.box [iq0,.str,iq0,.str,.own 15,.own 16,.own 17,.bool,.str,.str,.str,.own 18],.dead,.dead,.dead,.dead,.dead,.dead,.dead,.dead,.arr U.str,.arr U.Term,.arr U.dV,.arr U.eA,.arr U.str,.arr U.Term,.arr U.dV,.arr U.eA]⟩
abbrev Z6:iq2:=⟨[.ptr 0 0,.ptr 1 0,.ptr 2 0],[.el U.dr,.box [iq0,.str,iq0,.str,.own 11,.own 12,.own 13,.bool,.str,.str,.str,.own 14],.box [iq0,.str,iq0,.str,.own 15,.own 16,.own 17,.bool,.str,.str,.str,.own 18],.dead,.dead,.dead,.dead,.dead,.dead,.dead,.dead,.arr U.str,.arr U.Term,.arr U.dV,.arr U.eA,.arr U.str,.arr U.Term,.arr U.dV,.arr U.eA]⟩
abbrev Z7:iq2:=⟨[.ptr 1 0,.ptr 2 0],[.box [.ax U.Token,iq0,.bool],.box [.str,.own 5],.box [.str,.own 6],.dead,.dead,.arr U.Item,.arr U.Item]⟩
abbrev Z8:iq2:=⟨[.ptr 0 0,.ptr 1 0,.ptr 2 0],[.el U.dr,.box [.str,.own 5],.box [.str,.own 6],.dead,.dead,.arr U.Item,.arr U.Item]⟩
abbrev U7:iq2:=⟨[.ptr 0 0,.ptr 1 0,.ptr 2 0,.ptr 3 0],[.el U.dr,.box [.str,.own 6],.box [.str,.own 7],.el U.fy,.dead,.dead,.arr U.fy,.arr U.fy]⟩
abbrev U9:iq2:=⟨[.ptr 0 0,.ptr 1 0,.ptr 2 0,.ptr 3 0,iq0],[.el U.dr,.box [.str,.own 6],.box [.str,.own 7],.el U.fy,.dead,.dead,.arr U.fy,.arr U.fy]⟩
abbrev Va:iq2:=⟨[.ptr 1 0,.ptr 2 0],[.box [.ax U.Token,iq0,.bool],.box [.str,.own 5],.box [.str,.own 6],.dead,.dead,.arr U.fy,.arr U.fy]⟩
abbrev Vd:iq2:=⟨[.ptr 0 0,.ptr 1 0,.ptr 2 0],[.el U.dr,.box [.str,.own 5],.box [.str,.own 6],.dead,.dead,.arr U.fy,.arr U.fy]⟩
abbrev Vh:iq2:=⟨[.ptr 0 0,.ptr 1 0,.ptr 2 0],[.el U.dr,.box [.str,.str,.own 7,.own 8],.box [.str,.str,.own 9,.own 10],.dead,.dead,.dead,.dead,.arr U.dn,.arr U.dR,.arr U.dn,.arr U.dR]⟩
abbrev Vp:iq2:=⟨[.ptr 0 0,.own 4,.own 5,iq0],[.el U.dn,.dead,.dead,.dead,.arr U.str,.arr U.str]⟩
abbrev Vr:iq2:=⟨[.ptr 0 0,.own 4,.own 5,iq0,.ptr 3 0,iq0],[.el U.dn,.dead,.dead,.el U.Item,.arr U.str,.arr U.str]⟩
abbrev Vt:iq2:=⟨[.ptr 0 0,.own 3,.own 4,iq0],[.el U.dn,.dead,.dead,.arr U.str,.arr U.str]⟩
abbrev Vw:iq2:=⟨[.ax U.str,iq0,iq0],[]⟩
abbrev VJ:iq2:=⟨[iq0,.ptr 0 0,iq0,iq0],[.el U.Term]⟩
abbrev VS:iq2:=⟨[.ptr 0 0,.str,iq0],[.el U.Term]⟩
abbrev VZ:iq2:=⟨[.ptr 0 0,.ptr 1 0,.any],[.el U.Term,.el U.Term]⟩
abbrev V6:iq2:=⟨[.ax U.str,.ax U.str,iq0,iq0],[]⟩
abbrev Wc:iq2:=⟨[.ax U.Term,.fn 150 [.rp U.i64 0],.ax U.Term,iq0,iq0],[]⟩
abbrev Wl:iq2:=⟨[.ptr 0 0,.str,.own 2],[.el U.Term,.dead,.arr U.str]⟩
abbrev Wn:iq2:=⟨[iq0,.ptr 0 0,.str,.own 2,.ax U.Term,iq0,iq0],[.el U.Term,.dead,.arr U.str]⟩
abbrev Ws:iq2:=⟨[.ax U.str,.ptr 0 0,.own 2,.ax U.str,iq0,iq0],[.el U.Term,.dead,.arr U.str]⟩
abbrev WB:iq2:=⟨[.ptr 0 0,.own 2],[.el U.Item,.dead,.arr U.str]⟩
abbrev WE:iq2:=⟨[.ptr 0 0,.own 2,.ax U.eA,iq0,iq0],[.el U.Item,.dead,.arr U.str]⟩
abbrev WH:iq2:=⟨[.ptr 0 0,.own 2,.str],[.el U.Item,.dead,.arr U.str]⟩
abbrev WJ:iq2:=⟨[.ptr 0 0,.own 2,.str,.ax U.dV,iq0,iq0],[.el U.Item,.dead,.arr U.str]⟩
abbrev WN:iq2:=⟨[.ptr 0 0,.ptr 1 0,.ax U.dn,iq0,iq0,.ax U.Item,iq0,iq0],[.el U.ba,.box [.np 1,.own 3],.dead,.arr U.u8]⟩
abbrev WO:iq2:=⟨[.ptr 0 0,.ptr 1 0],[.el U.ba,.box [.np 1,.own 3],.dead,.arr U.u8]⟩
abbrev WS:iq2:=⟨[.ptr 0 0,.own 3,.ax U.dR,iq0,iq0,.ax U.fy,iq0,iq0],[.box [.np 0,.own 4],.dead,.dead,.arr U.str,.arr U.u8]⟩
abbrev WT:iq2:=⟨[.ptr 0 0],[.box [.np 0,.own 3],.dead,.dead,.arr U.u8]⟩
abbrev WX:iq2:=⟨[.ax U.eA,.ax U.eA,iq0,iq0],[]⟩
abbrev W6:iq2:=⟨[.ax U.dV,.fn 121 [],.ax U.dV,iq0,iq0],[]⟩
abbrev Xc:iq2:=⟨[.ax U.Item,.fn 82 [],.ax U.Item,iq0,iq0],[]⟩
abbrev Xi:iq2:=⟨[.ax U.dn,.fn 80 [],.ax U.dn,iq0,iq0],[]⟩
abbrev Xm:iq2:=⟨[.ax U.fy,.ax U.fy,iq0,iq0],[]⟩
abbrev Xs:iq2:=⟨[.ax U.dR,.fn 84 [],.ax U.dR,iq0,iq0],[]⟩
abbrev XT:iq2:=⟨[.ptr 0 0,.ptr 1 0,.any],[.el U.Item,.el U.Item]⟩
abbrev XY:iq2:=⟨[.ptr 0 0,.ptr 1 0,.any],[.el U.ba,.el U.ba]⟩
abbrev Yd:iq2:=⟨[.ptr 0 0,.own 1,iq0,.ptr 2 0,.ptr 3 0,iq0],[.el U.dS,.arr U.str,.box [iq0,.str,.own 8,.own 9],.box [iq0,.str,.own 10,.own 11],.dead,.dead,.dead,.dead,.arr U.str,.arr U.Term,.arr U.str,.arr U.Term]⟩
abbrev Yh:iq2:=⟨[.ptr 0 0,.ptr 1 0,.ptr 2 0,.own 6],[.el U.dS,.box [.str,.own 7],.box [.str,.own 8],.dead,.dead,.dead,.arr U.str,.arr U.Item,.arr U.Item]⟩
abbrev Yj:iq2:=⟨[.ptr 0 0,.ptr 1 0,.ptr 2 0,.own 11,iq0,.ptr 4 0],[.el U.dS,.box [.str,.own 12],.box [.str,.own 13],.dead,.box [iq0,.str,iq0,.str,.own 14,.own 15,.own 16,.bool,.str,.str,.str,.own 17],.dead,.dead,.dead,.dead,.dead,.dead,.arr U.str,.arr U.Item,.arr U.Item,.arr U.str,.arr U.Term,.arr U.dV,.arr U.eA]⟩
abbrev Yl:iq2:=⟨[.ptr 0 0,.ptr 1 0,.ptr 2 0,.own 11,iq0,.ptr 4 0,iq0],[.el U.dS,.box [.str,.own 12],.box [.str,.own 13],.dead,.box [iq0,.str,iq0,.str,.own 14,.own 15,.own 16,.bool,.str,.str,.str,.own 17],.dead,.dead,.dead,.dead,.dead,.dead,.arr U.str,.arr U.Item,.arr U.Item,.arr U.str,.arr U.Term,.arr U.dV,.arr U.eA]⟩
abbrev Ym:iq2:=⟨[.ptr 1 0,.ptr 2 0],[.box [.ax U.u8,iq0,.int .u64],.box [.str,.own 6],.box [.str,.own 7],.dead,.dead,.dead,.arr U.Item,.arr U.Item]⟩
abbrev Ys:iq2:=⟨[.ptr 0 0,.own 6,iq0,.ptr 2 0,.own 7],[.el U.dS,.dead,.box [.str,.str,.own 8,.own 9],.dead,.dead,.dead,.arr U.ba,.arr U.Path,.arr U.dn,.arr U.dR]⟩
abbrev Yu:iq2:=⟨[.ptr 0 0,.own 6,iq0,.ptr 2 0,.own 7,iq0],[.el U.dS,.dead,.box [.str,.str,.own 8,.own 9],.dead,.dead,.dead,.arr U.ba,.arr U.Path,.arr U.dn,.arr U.dR]⟩
abbrev Yv:iq2:=⟨[.ptr 0 0,.own 7,iq0,.ptr 2 0,.ptr 3 0],[.el U.dS,.dead,.box [.str,.str,.own 8,.own 9],.box [.str,.own 10],.dead,.dead,.dead,.arr U.ba,.arr U.dn,.arr U.dR,.arr U.fy]⟩
abbrev Yx:iq2:=⟨[.ptr 0 0,.own 7,iq0,.ptr 2 0,.ptr 3 0,iq0],[.el U.dS,.dead,.box [.str,.str,.own 8,.own 9],.box [.str,.own 10],.dead,.dead,.dead,.arr U.ba,.arr U.dn,.arr U.dR,.arr U.fy]⟩
abbrev Yy:iq2:=⟨[.own 2],[.box [.ax U.u8,iq0,.int .u64],.dead,.arr U.ba]⟩
abbrev YA:iq2:=⟨[.ptr 0 0,.own 2,iq0],[.el U.dS,.dead,.arr U.ba]⟩
abbrev YD:iq2:=⟨[.ax U.ba,iq0,iq0],[]⟩
abbrev YJ:iq2:=⟨[.ax U.ba,.fn 23 [.rp U.ba 0],iq0,iq0],[]⟩
abbrev YL:iq2:=⟨[.ax U.ba,.fn 23 [.rp U.ba 0]],[]⟩
abbrev YQ:iq2:=⟨[.ax U.ba,.ax U.ba,iq0,iq0],[]⟩
abbrev Y6:iq2:=⟨[.ax U.ba,.str,iq0,.bool],[]⟩
abbrev Y8:iq2:=⟨[.ax U.ba,.str,.str,iq0,.bool,.ax U.ba,iq0,iq0],[]⟩
abbrev Zc:iq2:=⟨[.bA [iq0,iq0,iq0]],[]⟩
abbrev Zg:iq2:=⟨[.ax U.ba,.own 1,iq0],[.dead,.arr U.ba]⟩
abbrev Zk:iq2:=⟨[.ax U.ba,.str,.str,iq0,iq0,iq0,.bool,.str],[]⟩
abbrev Zm:iq2:=⟨[.ax U.ba,.str,.str,iq0,iq0,iq0,.bool,.str,iq0],[]⟩
def NS:Go.TypeId->Option U:=gG [(2,U.i64),(3,U.i64),(4,U.bool),(5,U.u8),(6,U.u8),(9,U.str),(10,U.str),(11,U.str),(12,U.u64),(21,U.i32),(22,U.wS),(23,U.wI),(25,U.wR),(29,U.wG),(30,U.wO),(32,U.ba),(44,U.wJ),(46,U.Path),(47,U.wH),(49,U.dn),(52,U.wP),(54,U.dR),(56,U.wQ),(58,U.fy),(59,U.u64),(61,U.dS),(68,U.wK),(70,U.Term),(71,U.wL),(72,U.wN),(74,U.Item),(76,U.eA),(80,U.dV),(90,U.u64),(92,U.wM),(97,U.dr),(100,U.Token),(151,U.parser),(169,U.m6),(184,U.i64),(221,U.u32),(233,U.i64),(241,U.u64),(258,U.u8),(259,U.u8),(261,U.i32),(262,U.i32)]
def aoz:Go.TypeId->List (Option U):=iF [] [(22,[some U.u8]),(23,[some U.ba]),(25,[some U.str]),(29,[some U.dn]),(30,[some U.dR]),(32,[none,none,some U.dn,some U.dR]),(44,[some U.Path]),(47,[some U.Item]),(49,[none,some U.Item]),(52,[some U.fy]),(54,[none,some U.fy]),(56,[some U.i64]),(61,[some U.u8,none,none]),(68,[some U.Term]),(70,[none,none,some U.str,some U.Term]),(71,[some U.dV]),(72,[some U.eA]),(74,[none,none,none,none,some U.str,some U.Term,some U.dV,none,none,none,none,some U.eA]),(80,[none,none,none,some U.str,some U.Term]),(92,[some U.Token]),(97,[some U.Token,none,none]),(124,[none,some U.u8]),(151,[some U.Token,none,none]),(169,[none,none,none,some U.Token])]
theorem eP:Tryz.prog.follows .mixedOrders=true:=by kernel_rfl
abbrev aA(c:aK K):Prop:=c.Ok D Tryz.prog
abbrev KT(R:Type):=Ex->List (AV K)->List (Ob K)->R
def kk{R:Type}(k:KT R)(e:Ex)(s:aJ K)(v:s.T):R:=k e (aJ.lZ D s v) (aJ.mP D s v)
def cB(f:FuncId)(sh:aJ K)(run:sh.T->Option Bool):aK K:={f:=f,sh:=sh,R:=Bool,run:=run,dflt:=default,out:=fun r=>(Sh.enc D (.bool) r,aQ.encs D [] ())}
def cI(f:FuncId)(sh:aJ K)(run:sh.T->Option Int):aK K:={f:=f,sh:=sh,R:=Int,run:=run,dflt:=default,out:=fun r=>(Sh.enc D (.int .i64) r,aQ.encs D [] ())}
def cS(f:FuncId)(sh:aJ K)(run:sh.T->Option (List UInt8)):aK K:={f:=f,sh:=sh,R:=List UInt8,run:=run,dflt:=default,out:=fun r=>(Sh.enc D (.str) r,aQ.encs D [] ())}
def jD:Cx K:={P:=Tryz.prog,D:=D,ty:=NS,oy:=aoz,mode:=iF .plain [],call:=callOf D [],loop:=gG []}
def bD(m:List (FuncId×Go.V.Mode))(c:List (aK K))(l:List (Nat×bM K)):Cx K:={jD with mode:=iF .plain m,call:=callOf D c,loop:=gG l}
theorem hq{cx:Cx K}{fn:Func}(h:(jO (bK fn)).length=0:=by kernel_rfl):∀c,fn.body=some c->iD cx c:=EJ (oQ h)
theorem hl1{cx:Cx K}{fn:Func}{L:bM K}(o:bP cx (bB (bK fn) 0) L)(h:(jO (bK fn)).length=1:=by kernel_rfl)(k:cx.loop (keyOf (bB (bK fn) 0))=some L:=by kernel_rfl):∀c,fn.body=some c->iD cx c:=EJ (iE 1 h (iU (.mk k o)))
theorem hl2{cx:Cx K}{fn:Func}{L M:bM K}(o:bP cx (bB (bK fn) 0) L)(p:bP cx (bB (bK fn) 1) M)(h:(jO (bK fn)).length=2:=by kernel_rfl)(k:cx.loop (keyOf (bB (bK fn) 0))=some L:=by kernel_rfl)(l:cx.loop (keyOf (bB (bK fn) 1))=some M:=by kernel_rfl):∀c,fn.body=some c->iD cx c:=EJ (iE 2 h (lt_succ (iU (.mk k o)) (.mk l p)))
theorem lk{cx:Cx K}{c:Code}{n n0:Nat}{ins outs:List Nat}{sh:aJ K}{Y:Type}{run:Nat->sh.T->Option Y}{bR:List (cu K Y)}{out:Y->{R:Type}->(Ex->List (AV K)->List (Ob K)->R)->R}(hc:aY cx)(hs:∀m x,fZ cx c (vG cx.D n ins sh x) (K5 cx n n0 ins outs sh (run m) (x6 cx.D bR))=run (m+1) x)(hx:∀d∈bR,d.e≠.normal/\∀x (R:Type) (k:Ex->List (AV K)->List (Ob K)->R),out (d.conv x) k=k d.e (d.sh.lZ cx.D x) (d.sh.mP cx.D x))(hl:iD cx c:=by exact oQ (by kernel_rfl))(hD:bT cx.D:=by exact aO)(hm:cx.P.follows .mixedOrders=true:=by exact eP)(h0:∀x,run 0 x=none:=by exact fun _=>rfl):bP cx c (bS cx.D false n n0 ins outs sh (run ae) out):=ny hD hc hm hl h0 hs hx false ae
theorem bm{cx:Cx K}(fz:Bool)(hc:aY cx){c:aK K}{fn:Func}(hg:cx.P.funcs[c.f]?=some fn)(hl:∀b,fn.body=some b->iD cx b)(d:AL K cx.D c.R)(he:∀x,EI cx fz fn (c.sh.lZ cx.D x) (c.sh.mP cx.D x) d.fin=c.run x)(hD:bT cx.D:=by exact aO)(hm:cx.P.follows .mixedOrders=true:=by exact eP)(hn:(fn.name== "runtime.NumGoroutine")=false:=by kernel_rfl)(ho:∀x,([(c.out (d.conv x)).1],(c.out (d.conv x)).2)=(d.sh.lZ cx.D x,d.sh.mP cx.D x):=by exact fun x=>rfl):c.Ok cx.D cx.P:=gZ hD hc hm ⟨hg,hn⟩ hl d ho he
def NT(m:Int->Option Bool):aK K:=cB 169 zE (fun x=>m x.1.1)
def gU:Cx K:=bD [] [] []
theorem ia:aY gU:=bw aO _ aB
theorem Z9:aA (NT (M.NU)):=bm (cx:=gU) true ia Tryz.func169 hq ⟨zs0,fun x=>x.1.1⟩ (fun x=>by kernel_rfl)
def NV(m:Int->Option Bool):aK K:=cB 171 zE (fun x=>m x.1.1)
theorem aab:aA (NV (M.NW)):=bm (cx:=gU) true ia Tryz.func171 hq ⟨zs0,fun x=>x.1.1⟩ (fun x=>by kernel_rfl)
def C7(m:Int->Int->Int->Option Bool):aK K:=cB 27 ⟨[iq0,iq0,iq0],[]⟩ (fun x=>m x.1.1 x.1.2.1 x.1.2.2.1)
theorem Gm:aA (C7 (M.C9)):=bm (cx:=gU) true ia Tryz.func27 hq ⟨zs0,fun x=>x.1.1⟩ (fun x=>by kernel_rfl)
def pB(y:Bool⊕Unit){R:Type}(k:KT R):R:=match y with|.inl a0=>kk k Ex.ret zs0 ((a0,()),())|.inr a1=>kk k (Ex.exit 0) zs2 (((),()),())
def pC:List (cu K ((Bool)⊕Unit)):=[⟨Ex.ret,zs0,fun x=>.inl x.1.1⟩,⟨(Ex.exit 0),zs2,fun x=>.inr (())⟩]
def aac:bM K:=bS D false 69 0 [0,3] [2] sH (fun x=>M.wC x.1.1 ae x.1.2.1) pB
def aad(m:(List UInt8)->Option Bool):aK K:=cB 128 zs1 (fun x=>m x.1.1)
def HY:Cx K:=bD [] [] [(4,aac)]
theorem aae:aY HY:=bw aO _ aB
theorem aoA:bP HY (bB (bK Tryz.f128) 0) aac:=lk (cx:=HY) (sh:=sH) (run:=fun n x=>M.wC x.1.1 n x.1.2.1) (bR:=pC) aae (fun m x=>by kernel_rfl) (af ⟨dK,fun _ _ _=>rfl⟩ (af ⟨bW,fun _ _ _=>rfl⟩ aB))
theorem aoB:aA (aad (M.C0)):=bm (cx:=HY) true aae Tryz.func128 (hl1 aoA) ⟨zs0,fun x=>x.1.1⟩ (fun x=>by kernel_rfl)
def Gy(m:Int->Int->Int->Option Bool):aK K:=cB 56 ⟨[iq0,iq0,iq0],[]⟩ (fun x=>m x.1.1 x.1.2.1 x.1.2.2.1)
theorem Nu:aA (Gy (M.Gz)):=bm (cx:=gU) true ia Tryz.func56 hq ⟨zs0,fun x=>x.1.1⟩ (fun x=>by kernel_rfl)
def aoC(y:Bool⊕((List UInt8))){R:Type}(k:KT R):R:=match y with|.inl a0=>kk k Ex.ret ⟨[.any,.bool],[]⟩ (((),(a0,())),())|.inr a1=>kk k (Ex.exit 0) ⟨[.str,.any],[]⟩ ((a1,((),())),())
def aoD:List (cu K ((Bool)⊕((List UInt8)))):=[⟨Ex.ret,⟨[.any,.bool],[]⟩,fun x=>.inl x.1.2.1⟩,⟨(Ex.exit 0),⟨[.str,.any],[]⟩,fun x=>.inr (x.1.1)⟩]
def aaf:bM K:=bS D false 75 0 [0,7,8] [0,2] sJ (fun x=>M.uM x.1.1 x.1.2.1 ae x.1.2.2.1) aoC
def NY(m:(List UInt8)->Option Bool):aK K:=cB 141 zs1 (fun x=>m x.1.1)
def HZ:Cx K:=bD [] [] [(2,aaf)]
theorem aag:aY HZ:=bw aO _ aB
theorem aoE:bP HZ (bB (bK Tryz.f141) 0) aaf:=lk (cx:=HZ) (sh:=sJ) (run:=fun n x=>M.uM x.1.1 x.1.2.1 n x.1.2.2.1) (bR:=aoD) aag (fun m x=>by kernel_rfl) (af ⟨dK,fun _ _ _=>rfl⟩ (af ⟨bW,fun _ _ _=>rfl⟩ aB))
theorem aah:aA (NY (M.wB)):=bm (cx:=HZ) true aag Tryz.func141 (hl1 aoE) ⟨zs0,fun x=>x.1.1⟩ (fun x=>by kernel_rfl)
def aoF(y:Int⊕((List UInt8)×Int×Int×Int)){R:Type}(k:KT R):R:=match y with|.inl a0=>kk k Ex.ret Zu (((),((),((),((),(a0,()))))),())|.inr a1=>kk k (Ex.exit 0) Zv ((a1.1,(a1.2.1,(a1.2.2.1,(a1.2.2.2,((),()))))),())
def aoG:List (cu K ((Int)⊕((List UInt8)×Int×Int×Int))):=[⟨Ex.ret,Zu,fun x=>.inl x.1.2.2.2.2.1⟩,⟨(Ex.exit 0),Zv,fun x=>.inr ((x.1.1,x.1.2.1,x.1.2.2.1,x.1.2.2.2.1))⟩]
def aai:bM K:=bS D false 71 0 [0,3,4,5,6] [0,3,4,5,2] Zw (fun x=>M.oa x.1.1 ae x.1.2.1 x.1.2.2.1 x.1.2.2.2.1 x.1.2.2.2.2.1) aoF
def wX(m:Int->Option ((List UInt8))):aK K:=cS 41 jl (fun x=>m x.1.1)
def aaj(oo:Int->Option ((List UInt8))):Cx K:=bD [(41,.plain)] [wX oo] []
theorem aoH(oo:Int->Option ((List UInt8)))(NZ:aA (wX oo)):aY (aaj oo):=bw aO _ (af NZ aB)
theorem aoI(oo:Int->Option ((List UInt8)))(NZ:aA (wX oo)):aA (wX (M.zj oo)):=gZ (cx:=aaj oo) (fz:=true) aO (aoH oo NZ) eP ⟨Tryz.func41,by kernel_rfl⟩ hq ⟨zs1,fun x=>x.1.1⟩ (fun x=>rfl) (fun x=>by kernel_rfl)
theorem aak:∀n,aA (wX (M.qI n))|0=>pY fun _=>rfl|n+1=>aoI (M.qI n) (aak n)
theorem aoJ:aA (wX (M.wF)):=aak ae
def aal(m:Int->Option ((List UInt8))):aK K:=cS 28 jl (fun x=>m x.1.1)
def aam:Cx K:=bD [(41,.plain)] [wX M.wF] []
theorem aoK:aY aam:=bw aO _ (af aoJ aB)
theorem aoL:aA (aal (M.C3)):=bm (cx:=aam) true aoK Tryz.func28 hq ⟨zs1,fun x=>x.1.1⟩ (fun x=>by kernel_rfl)
def aan(m:(List UInt8)->Option Int):aK K:=cI 14 zs1 (fun x=>m x.1.1)
def H3:Cx K:=bD [(27,.plain),(28,.plain)] [C7 M.C9,aal M.C3] [(3,aai)]
theorem aao:aY H3:=bw aO _ (af Gm (af aoL aB))
theorem aoM:bP H3 (bB (bK Tryz.f14) 0) aai:=lk (cx:=H3) (sh:=Zw) (run:=fun n x=>M.oa x.1.1 n x.1.2.1 x.1.2.2.1 x.1.2.2.2.1 x.1.2.2.2.2.1) (bR:=aoG) aao (fun m x=>by kernel_rfl) (af ⟨dK,fun _ _ _=>rfl⟩ (af ⟨bW,fun _ _ _=>rfl⟩ aB))
theorem aoN:aA (aan (M.px)):=bm (cx:=H3) true aao Tryz.func14 (hl1 aoM) ⟨jl,fun x=>x.1.1⟩ (fun x=>by kernel_rfl)
def aap(m:(List UInt8)->Option Bool):aK K:=cB 97 zs1 (fun x=>m x.1.1)
def Hz:Cx K:=bD [(14,.plain)] [aan M.px] []
theorem NJ:aY Hz:=bw aO _ (af aoN aB)
theorem aoO:aA (aap (M.C4)):=bm (cx:=Hz) true NJ Tryz.func97 hq ⟨zs0,fun x=>x.1.1⟩ (fun x=>by kernel_rfl)
def aoP(y:(Int×Bool)⊕Int){R:Type}(k:KT R):R:=match y with|.inl a0=>kk k Ex.ret ⟨[.any,iq0,.bool],[]⟩ (((),(a0.1,(a0.2,()))),())|.inr a1=>kk k (Ex.exit 0) ⟨[iq0,.any,.any],[]⟩ ((a1,((),((),()))),())
def aoQ:List (cu K ((Int×Bool)⊕Int)):=[⟨Ex.ret,⟨[.any,iq0,.bool],[]⟩,fun x=>.inl (x.1.2.1,x.1.2.2.1)⟩,⟨(Ex.exit 0),⟨[iq0,.any,.any],[]⟩,fun x=>.inr (x.1.1)⟩]
def aaq:bM K:=bS D false 39 0 [5,15,16,17] [5,2,3] Zx (fun x=>M.my x.1.2.1 x.1.2.2.1 ae x.1.1 x.1.2.2.2.1) aoP
def NL(m:(List UInt8)->Option (Int×Bool)):aK K:={f:=39,sh:=zs1,R:=Int×Bool,run:=fun x=>m x.1.1,dflt:=default,out:=fun r=>(Sh.enc D (.bA [iq0,.bool]) (r.1,(r.2,())),aQ.encs D [] ())}
def H4:Cx K:=bD [(54,.jI),(55,.plain),(56,.plain)] [Lu M.strings_Split,Lt M.nz,Gy M.Gz] [(6,aaq)]
theorem aar:aY H4:=bw aO _ (af agv (af agu (af Nu aB)))
theorem aoR:bP H4 (bB (bK Tryz.f39) 0) aaq:=lk (cx:=H4) (sh:=Zx) (run:=fun n x=>M.my x.1.2.1 x.1.2.2.1 n x.1.1 x.1.2.2.2.1) (bR:=aoQ) aar (fun m x=>by kernel_rfl) (af ⟨dK,fun _ _ _=>rfl⟩ (af ⟨bW,fun _ _ _=>rfl⟩ aB))
theorem Y3:aA (NL (M.nZ)):=bm (cx:=H4) true aar Tryz.func39 (hl1 aoR) ⟨⟨[.bA [iq0,.bool]],[]⟩,fun x=>(x.1.1.1,x.1.1.2.1)⟩ (fun x=>by kernel_rfl)
def NM(m:(List UInt8)->Option Bool):aK K:=cB 24 zs1 (fun x=>m x.1.1)
def NK:Cx K:=bD [(39,.plain)] [NL M.nZ] []
theorem YW:aY NK:=bw aO _ (af Y3 aB)
theorem Zb:aA (NM (M.wE)):=bm (cx:=NK) true YW Tryz.func24 hq ⟨zs0,fun x=>x.1.1⟩ (fun x=>by kernel_rfl)
def Ht(y:Int⊕Unit){R:Type}(k:KT R):R:=match y with|.inl a0=>kk k Ex.ret jl ((a0,()),())|.inr a1=>kk k (Ex.exit 0) zs2 (((),()),())
def Hu:List (cu K ((Int)⊕Unit)):=[⟨Ex.ret,jl,fun x=>.inl x.1.1⟩,⟨(Ex.exit 0),zs2,fun x=>.inr (())⟩]
def aas:bM K:=bS D false 19 0 [0,1,7,8] [4] Zy (fun x=>M.vN x.1.1 x.1.2.1 x.1.2.2.1 ae x.1.2.2.2.1) Ht
def N1(m:(List (List UInt8))->(List UInt8)->Option Int):aK K:=cI 201 ⟨[.ax U.str,.str],[]⟩ (fun x=>m x.1.1 x.1.2.1)
def H5:Cx K:=bD [] [] [(2,aas)]
theorem aat:aY H5:=bw aO _ aB
theorem aoS:bP H5 (bB (bK Tryz.f201) 0) aas:=lk (cx:=H5) (sh:=Zy) (run:=fun n x=>M.vN x.1.1 x.1.2.1 x.1.2.2.1 n x.1.2.2.2.1) (bR:=Hu) aat (fun m x=>by kernel_rfl) (af ⟨dK,fun _ _ _=>rfl⟩ (af ⟨bW,fun _ _ _=>rfl⟩ aB))
theorem aau:aA (N1 (M.vM)):=bm (cx:=H5) true aat Tryz.func201 (hl1 aoS) ⟨jl,fun x=>x.1.1⟩ (fun x=>by kernel_rfl)
def aav(m:(List (List UInt8))->(List UInt8)->Option Bool):aK K:=cB 217 ⟨[.ax U.str,.str],[]⟩ (fun x=>m x.1.1 x.1.2.1)
def aaw:Cx K:=bD [(201,.plain)] [N1 M.vM] []
theorem aoT:aY aaw:=bw aO _ (af aau aB)
theorem aoU:aA (aav (M.EY)):=bm (cx:=aaw) true aoT Tryz.func217 hq ⟨zs0,fun x=>x.1.1⟩ (fun x=>by kernel_rfl)
def aoV(y:(List UInt8)×Int×Int){R:Type}(k:KT R):R:=match y with|a0=>kk k (Ex.exit 3) sJ ((a0.1,(a0.2.1,(a0.2.2,()))),())
def aoW:List (cu K ((List UInt8)×Int×Int)):=[⟨(Ex.exit 3),sJ,fun x=>(x.1.1,x.1.2.1,x.1.2.2.1)⟩]
def aax:bM K:=bS D false 63 0 [0,1,2] [0,1,2] sJ (fun x=>M.x9 x.1.1 x.1.2.2.1 ae x.1.2.1) aoV
def aoX(y:(Int×Int)⊕(Int×Int)){R:Type}(k:KT R):R:=match y with|.inl a0=>kk k Ex.ret Zz (((),((),(a0.1,(a0.2,())))),())|.inr a1=>kk k (Ex.exit 0) ZA ((a1.1,(a1.2,((),((),())))),())
def aoY:List (cu K ((Int×Int)⊕(Int×Int))):=[⟨Ex.ret,Zz,fun x=>.inl (x.1.2.2.1,x.1.2.2.2.1)⟩,⟨(Ex.exit 0),ZA,fun x=>.inr ((x.1.1,x.1.2.1))⟩]
def aay:bM K:=bS D false 63 0 [0,1,2] [1,2,6,7] sJ (fun x=>M.rH ae x.1.1 x.1.2.1 x.1.2.2.1) aoX
def aaz(m:(List UInt8)->Int->Int->Option (Int×Int)):aK K:={f:=59,sh:=sJ,R:=Int×Int,run:=fun x=>m x.1.1 x.1.2.1 x.1.2.2.1,dflt:=default,out:=fun r=>(Sh.enc D (.bA [iq0,iq0]) (r.1,(r.2,())),aQ.encs D [] ())}
def zH:Cx K:=bD [] [] [(9,aax),(1,aay)]
theorem N2:aY zH:=bw aO _ aB
theorem aoZ:bP zH (bB (bB (bK Tryz.f59) 0) 0) aax:=lk (cx:=zH) (sh:=sJ) (run:=fun n x=>M.x9 x.1.1 x.1.2.2.1 n x.1.2.1) (bR:=aoW) N2 (fun m x=>by kernel_rfl) (af ⟨bW,fun _ _ _=>rfl⟩ aB)
theorem ao0:bP zH (bB (bK Tryz.f59) 0) aay:=lk (cx:=zH) (sh:=sJ) (run:=fun n x=>M.rH n x.1.1 x.1.2.1 x.1.2.2.1) (bR:=aoY) N2 (fun m x=>by kernel_rfl) (af ⟨dK,fun _ _ _=>rfl⟩ (af ⟨bW,fun _ _ _=>rfl⟩ aB)) (hl:=(iE 1 (by kernel_rfl) (iU (.mk (by kernel_rfl) aoZ))))
theorem ao1:aA (aaz (M.vH)):=bm (cx:=zH) true N2 Tryz.func59 (hl1 ao0) ⟨HA,fun x=>(x.1.1.1,x.1.1.2.1)⟩ (fun x=>by kernel_rfl)
def N3(m:Int->Option Bool):aK K:=cB 90 zE (fun x=>m x.1.1)
theorem aaA:aA (N3 (M.N4)):=bm (cx:=gU) true ia Tryz.func90 hq ⟨zs0,fun x=>x.1.1⟩ (fun x=>by kernel_rfl)
def H6(m:Int->Option Bool):aK K:=cB 92 zE (fun x=>m x.1.1)
theorem N5:aA (H6 (M.H7)):=bm (cx:=gU) true ia Tryz.func92 hq ⟨zs0,fun x=>x.1.1⟩ (fun x=>by kernel_rfl)
def aaB(y:Int⊕Int){R:Type}(k:KT R):R:=match y with|.inl a0=>kk k Ex.ret Zp (((),(a0,())),())|.inr a1=>kk k (Ex.exit 0) Zq ((a1,((),())),())
def aaC:List (cu K ((Int)⊕Int)):=[⟨Ex.ret,Zp,fun x=>.inl x.1.2.1⟩,⟨(Ex.exit 0),Zq,fun x=>.inr (x.1.1)⟩]
def aaD:bM K:=bS D false 53 0 [0,1] [1,4] sH (fun x=>M.vJ x.1.1 ae x.1.2.1) aaB
def aaE(m:(List UInt8)->Int->Option Int):aK K:=cI 91 sH (fun x=>m x.1.1 x.1.2.1)
def H8:Cx K:=bD [(90,.plain),(92,.plain)] [N3 M.N4,H6 M.H7] [(1,aaD)]
theorem aaF:aY H8:=bw aO _ (af aaA (af N5 aB))
theorem ao2:bP H8 (bB (bK Tryz.f91) 0) aaD:=lk (cx:=H8) (sh:=sH) (run:=fun n x=>M.vJ x.1.1 n x.1.2.1) (bR:=aaC) aaF (fun m x=>by kernel_rfl) (af ⟨dK,fun _ _ _=>rfl⟩ (af ⟨bW,fun _ _ _=>rfl⟩ aB))
theorem ao3:aA (aaE (M.AP)):=bm (cx:=H8) true aaF Tryz.func91 (hl1 ao2) ⟨jl,fun x=>x.1.1⟩ (fun x=>by kernel_rfl)
def aaG:bM K:=bS D false 39 0 [0,1] [1,4] sH (fun x=>M.vK x.1.1 ae x.1.2.1) aaB
def aaH(m:(List UInt8)->Int->Option Int):aK K:=cI 93 sH (fun x=>m x.1.1 x.1.2.1)
def H9:Cx K:=bD [(92,.plain)] [H6 M.H7] [(1,aaG)]
theorem aaI:aY H9:=bw aO _ (af N5 aB)
theorem ao4:bP H9 (bB (bK Tryz.f93) 0) aaG:=lk (cx:=H9) (sh:=sH) (run:=fun n x=>M.vK x.1.1 n x.1.2.1) (bR:=aaC) aaI (fun m x=>by kernel_rfl) (af ⟨dK,fun _ _ _=>rfl⟩ (af ⟨bW,fun _ _ _=>rfl⟩ aB))
theorem ao5:aA (aaH (M.AQ)):=bm (cx:=H9) true aaI Tryz.func93 (hl1 ao4) ⟨jl,fun x=>x.1.1⟩ (fun x=>by kernel_rfl)
def aaJ:bM K:=bS D false 16 0 [0,3,4] [2] ⟨[.int .u8,.str,iq0],[]⟩ (fun x=>M.tJ x.1.1 x.1.2.1 ae x.1.2.2.1) pB
def aaK(m:Int->Option Bool):aK K:=cB 94 zE (fun x=>m x.1.1)
def Ia:Cx K:=bD [] [] [(3,aaJ)]
theorem aaL:aY Ia:=bw aO _ aB
theorem ao6:bP Ia (bB (bK Tryz.f94) 0) aaJ:=lk (cx:=Ia) (sh:=⟨[.int .u8,.str,iq0],[]⟩) (run:=fun n x=>M.tJ x.1.1 x.1.2.1 n x.1.2.2.1) (bR:=pC) aaL (fun m x=>by kernel_rfl) (af ⟨dK,fun _ _ _=>rfl⟩ (af ⟨bW,fun _ _ _=>rfl⟩ aB))
theorem ao7:aA (aaK (M.AT)):=bm (cx:=Ia) true aaL Tryz.func94 (hl1 ao6) ⟨zs0,fun x=>x.1.1⟩ (fun x=>by kernel_rfl)
def aaM(m:(List UInt8)->Int->Option (M.aj×Int)):aK K:={f:=60,sh:=sH,R:=M.aj×Int,run:=fun x=>m x.1.1 x.1.2.1,dflt:=default,out:=fun r=>(Sh.enc D (.bA [.el U.Token,iq0]) (r.1,(r.2,())),aQ.encs D [] ())}
def aaN:Cx K:=bD [(90,.plain),(91,.plain),(92,.plain),(93,.plain),(94,.plain)] [N3 M.N4,aaE M.AP,H6 M.H7,aaH M.AQ,aaK M.AT] []
theorem ao8:aY aaN:=bw aO _ (af aaA (af ao3 (af N5 (af ao5 (af ao7 aB)))))
theorem ao9:aA (aaM (M.AW)):=bm (cx:=aaN) true ao8 Tryz.func60 hq ⟨⟨[.bA [.el U.Token,iq0]],[]⟩,fun x=>(x.1.1.1,x.1.1.2.1)⟩ (fun x=>by kernel_rfl)
def apa(y:(Int×Int×(List M.aj))⊕(Int×(List M.aj))){R:Type}(k:KT R):R:=match y with|.inl a0=>kk k Ex.ret ZB (((),((),((),(a0.1,(a0.2.1,()))))),((),((),(a0.2.2,()))))|.inr a1=>kk k (Ex.exit 0) ZC (((),(a1.1,((),((),((),()))))),((),(a1.2,())))
def apb:List (cu K ((Int×Int×(List M.aj))⊕(Int×(List M.aj)))):=[⟨Ex.ret,ZB,fun x=>.inl (x.1.2.2.2.1,x.1.2.2.2.2.1,x.2.2.2.1)⟩,⟨(Ex.exit 0),ZC,fun x=>.inr ((x.1.2.1,x.2.2.1))⟩]
def aaO:bM K:=bS D false 54 1 [0,5,6,7] [5,7,2,3,4] ZD (fun x=>M.ye x.1.1 ae x.1.2.2.1 x.1.2.2.2.1 x.2.2.1) apa
def VG(m:(List UInt8)->Option ((List M.aj)×Int×Int)):aK K:={f:=43,sh:=zs1,R:=(List M.aj)×Int×Int,run:=fun x=>m x.1.1,dflt:=default,out:=fun r=>(Sh.enc D (.bA [.ax U.Token,iq0,iq0]) (r.1,(r.2.1,(r.2.2,()))),aQ.encs D [] ())}
def Ib:Cx K:=bD [(59,.plain),(60,.plain)] [aaz M.vH,aaM M.AW] [(5,aaO)]
theorem aaP:aY Ib:=bw aO _ (af ao1 (af ao9 aB))
theorem apc:bP Ib (bB (bK Tryz.f43) 0) aaO:=lk (cx:=Ib) (sh:=ZD) (run:=fun n x=>M.ye x.1.1 n x.1.2.2.1 x.1.2.2.2.1 x.2.2.1) (bR:=apb) aaP (fun m x=>by kernel_rfl) (af ⟨dK,fun _ _ _=>rfl⟩ (af ⟨bW,fun _ _ _=>rfl⟩ aB))
theorem akO:aA (VG (M.AX)):=bm (cx:=Ib) true aaP Tryz.func43 (hl1 apc) ⟨ZE,fun x=>(x.1.1.1,x.1.1.2.1,x.1.1.2.2.1)⟩ (fun x=>by kernel_rfl)
def aaQ(m:(List UInt8)->(List UInt8)->Option Bool):aK K:=cB 196 wW (fun x=>m x.1.1 x.1.2.1)
theorem apd:aA (aaQ (M.EL)):=bm (cx:=gU) true ia Tryz.func196 hq ⟨zs0,fun x=>x.1.1⟩ (fun x=>by kernel_rfl)
def N6(m:(List UInt8)->(List UInt8)->Option Bool):aK K:=cB 168 wW (fun x=>m x.1.1 x.1.2.1)
def aaR:Cx K:=bD [(196,.plain)] [aaQ M.EL] []
theorem ape:aY aaR:=bw aO _ (af apd aB)
theorem aaS:aA (N6 (M.strings_HasPrefix)):=bm (cx:=aaR) true ape Tryz.func168 hq ⟨zs0,fun x=>x.1.1⟩ (fun x=>by kernel_rfl)
def apf(y:(List UInt8)×Int×Int×(List M.aj)){R:Type}(k:KT R):R:=match y with|a0=>kk k (Ex.exit 3) zF (((),()),((a0.1,(a0.2.1,(a0.2.2.1,((),())))),((),(a0.2.2.2,()))))
def apg:List (cu K ((List UInt8)×Int×Int×(List M.aj))):=[⟨(Ex.exit 3),zF,fun x=>(x.2.1.1,x.2.1.2.1,x.2.1.2.2.1,x.2.2.2.1)⟩]
def aaT:bM K:=bS D false 89 2 [0] [0] zF (fun x=>M.ya x.2.1.1 x.2.1.2.2.1 x.2.2.2.1 ae x.2.1.2.1) apf
def aph(y:((List UInt8)×Int×Int×(List M.aj))⊕((List UInt8)×Int×Int×(List M.aj))){R:Type}(k:KT R):R:=match y with|.inl a0=>kk k Ex.ret HJ ((),((a0.1,(a0.2.1,(a0.2.2.1,((),())))),((),(a0.2.2.2,()))))|.inr a1=>kk k (Ex.exit 0) HJ ((),((a1.1,(a1.2.1,(a1.2.2.1,((),())))),((),(a1.2.2.2,()))))
def api:List (cu K (((List UInt8)×Int×Int×(List M.aj))⊕((List UInt8)×Int×Int×(List M.aj)))):=[⟨Ex.ret,HJ,fun x=>.inl (x.2.1.1,x.2.1.2.1,x.2.1.2.2.1,x.2.2.2.1)⟩,⟨(Ex.exit 0),HJ,fun x=>.inr ((x.2.1.1,x.2.1.2.1,x.2.1.2.2.1,x.2.2.2.1))⟩]
def aaU:bM K:=bS D false 89 2 [0] [] zF (fun x=>M.rJ ae x.2.1.1 x.2.1.2.1 x.2.1.2.2.1 x.2.2.2.1) aph
def aaV(m:(List UInt8)->Int->Int->(List M.aj)->Option ((List UInt8)×Int×Int×(List M.aj))):aK K:={f:=138,sh:=⟨[.ptr 0 0],[.box [.str,iq0,iq0,.own 1],.arr U.Token]⟩,R:=(List UInt8)×Int×Int×(List M.aj),run:=fun x=>m x.2.1.1 x.2.1.2.1 x.2.1.2.2.1 x.2.2.1,dflt:=default,out:=fun r=>(Sh.enc D (.bA []) (),aQ.encs D [.box [.str,iq0,iq0,.own 2],.dead,.arr U.Token] ((r.1,(r.2.1,(r.2.2.1,((),())))),((),(r.2.2.2,()))))}
def zI:Cx K:={jD with mode:=iF .plain [(168,.plain)],mv:=true,call:=callOf D [N6 M.strings_HasPrefix],loop:=gG [(8,aaT),(0,aaU)]}
theorem N7:aY zI:=bw aO _ (af aaS aB)
theorem apj:bP zI (bB (bB (bK Tryz.f138) 0) 0) aaT:=lk (cx:=zI) (sh:=zF) (run:=fun n x=>M.ya x.2.1.1 x.2.1.2.2.1 x.2.2.2.1 n x.2.1.2.1) (bR:=apg) N7 (fun m x=>by kernel_rfl) (af ⟨bW,fun _ _ _=>rfl⟩ aB)
theorem apk:bP zI (bB (bK Tryz.f138) 0) aaU:=lk (cx:=zI) (sh:=zF) (run:=fun n x=>M.rJ n x.2.1.1 x.2.1.2.1 x.2.1.2.2.1 x.2.2.2.1) (bR:=api) N7 (fun m x=>by kernel_rfl) (af ⟨dK,fun _ _ _=>rfl⟩ (af ⟨bW,fun _ _ _=>rfl⟩ aB)) (hl:=(iE 1 (by kernel_rfl) (iU (.mk (by kernel_rfl) apj))))
theorem apl:aA (aaV (M.vI)):=bm (cx:=zI) true N7 Tryz.func138 (hl1 apk) ⟨⟨[.bA []],[.box [.str,iq0,iq0,.own 2],.dead,.arr U.Token]⟩,fun x=>(x.2.1.1,x.2.1.2.1,x.2.1.2.2.1,x.2.2.2.1)⟩ (fun x=>by kernel_rfl)
def aaW(m:M.iH->Int->Option Int):aK K:={f:=197,sh:=⟨[.rp U.m6 0,iq0],[]⟩,R:=Int,run:=fun x=>m x.1.1 x.1.2.1,dflt:=default,out:=fun r=>(Sh.enc D (.int .u8) r,aQ.encs D [] ())}
theorem apm:aA (aaW (M.AS)):=bm (cx:=gU) true ia Tryz.func197 hq ⟨zE,fun x=>x.1.1⟩ (fun x=>by kernel_rfl)
def apn(y:Int){R:Type}(k:KT R):R:=match y with|a0=>kk k (Ex.exit 0) jl ((a0,()),())
def apo:List (cu K Int):=[⟨(Ex.exit 0),jl,fun x=>x.1.1⟩]
def aaX:bM K:=bS D false 79 0 [0,1,5] [1] ⟨[.rp U.m6 0,iq0,.bool],[]⟩ (fun x=>M.yc x.1.1 x.1.2.2.1 ae x.1.2.1) apn
def aaY(m:M.iH->Int->Option Int):aK K:=cI 170 ⟨[.rp U.m6 0,iq0],[]⟩ (fun x=>m x.1.1 x.1.2.1)
def Ic:Cx K:=bD [(169,.plain),(197,.plain),(171,.plain)] [NT M.NU,aaW M.AS,NV M.NW] [(3,aaX)]
theorem aaZ:aY Ic:=bw aO _ (af Z9 (af apm (af aab aB)))
theorem apq:bP Ic (bB (bK Tryz.f170) 0) aaX:=lk (cx:=Ic) (sh:=⟨[.rp U.m6 0,iq0,.bool],[]⟩) (run:=fun n x=>M.yc x.1.1 x.1.2.2.1 n x.1.2.1) (bR:=apo) aaZ (fun m x=>by kernel_rfl) (af ⟨bW,fun _ _ _=>rfl⟩ aB)
theorem apr:aA (aaY (M.yd)):=bm (cx:=Ic) true aaZ Tryz.func170 (hl1 apq) ⟨jl,fun x=>x.1.1⟩ (fun x=>by kernel_rfl)
def aa0(m:M.iH->Option (Int×Int)):aK K:={f:=139,sh:=⟨[.rp U.m6 0],[]⟩,R:=Int×Int,run:=fun x=>m x.1.1,dflt:=default,out:=fun r=>(Sh.enc D (.bA [iq0,iq0]) (r.1,(r.2,())),aQ.encs D [] ())}
def aa1:Cx K:=bD [(169,.plain),(170,.plain),(171,.plain),(168,.plain),(172,.plain)] [NT M.NU,aaY M.yd,NV M.NW,N6 M.strings_HasPrefix,Lp M.strings_IndexByte] []
theorem aps:aY aa1:=bw aO _ (af Z9 (af apr (af aab (af aaS (af af7 aB)))))
theorem apt:aA (aa0 (M.AU)):=bm (cx:=aa1) true aps Tryz.func139 hq ⟨HA,fun x=>(x.1.1.1,x.1.1.2.1)⟩ (fun x=>by kernel_rfl)
def apu(y:(Int×Int)⊕((List UInt8)×Int×Int×(List M.aj))){R:Type}(k:KT R):R:=match y with|.inl a0=>kk k Ex.ret ZF (((),((),(a0.1,(a0.2,())))),((),((),((),()))))|.inr a1=>kk k (Ex.exit 0) ZG (((),((),((),((),())))),((a1.1,(a1.2.1,(a1.2.2.1,((),())))),((),(a1.2.2.2,()))))
def apv:List (cu K ((Int×Int)⊕((List UInt8)×Int×Int×(List M.aj)))):=[⟨Ex.ret,ZF,fun x=>.inl (x.1.2.2.1,x.1.2.2.2.1)⟩,⟨(Ex.exit 0),ZG,fun x=>.inr ((x.2.1.1,x.2.1.2.1,x.2.1.2.2.1,x.2.2.2.1))⟩]
def aa2:bM K:=bS D false 85 2 [0,5] [5,2,3,4] ZH (fun x=>M.yf x.1.1 ae x.2.1.1 x.2.1.2.1 x.2.1.2.2.1 x.2.2.2.1) apu
def aa3(m:(List UInt8)->Option ((List M.aj)×Int×Int)):aK K:={f:=109,sh:=zs1,R:=(List M.aj)×Int×Int,run:=fun x=>m x.1.1,dflt:=default,out:=fun r=>(Sh.enc D (.bA [.ax U.Token,iq0,iq0]) (r.1,(r.2.1,(r.2.2,()))),aQ.encs D [] ())}
def Ie:Cx K:=bD [(138,.aX),(139,.plain)] [aaV M.vI,aa0 M.AU] [(5,aa2)]
theorem aa4:aY Ie:=bw aO _ (af apl (af apt aB))
theorem apw:bP Ie (bB (bK Tryz.f109) 0) aa2:=lk (cx:=Ie) (sh:=ZH) (run:=fun n x=>M.yf x.1.1 n x.2.1.1 x.2.1.2.1 x.2.1.2.2.1 x.2.2.2.1) (bR:=apv) aa4 (fun m x=>by kernel_rfl) (af ⟨dK,fun _ _ _=>rfl⟩ (af ⟨bW,fun _ _ _=>rfl⟩ aB))
theorem apx:aA (aa3 (M.AY)):=bm (cx:=Ie) true aa4 Tryz.func109 (hl1 apw) ⟨ZE,fun x=>(x.1.1.1,x.1.1.2.1,x.1.1.2.2.1)⟩ (fun x=>by kernel_rfl)
def wU(m:M.ay->Option (M.aj×M.ay)):aK K:={f:=45,sh:=oh,R:=M.aj×M.ay,run:=fun x=>m x.2.1,dflt:=default,out:=fun r=>(Sh.enc D (.el U.Token) r.1,aQ.encs D [.el U.dr] (r.2,()))}
theorem zo:aA (wU (M.lE)):=bm (cx:=gU) true ia Tryz.func45 hq ⟨⟨[.el U.Token],[.el U.dr]⟩,fun x=>(x.1.1,x.2.1)⟩ (fun x=>by kernel_rfl)
def aa5(m:(List UInt8)->Option Bool):aK K:=cB 95 zs1 (fun x=>m x.1.1)
def aa6:Cx K:=bD [(128,.plain)] [aad M.C0] []
theorem apy:aY aa6:=bw aO _ (af aoB aB)
theorem apz:aA (aa5 (M.A3)):=bm (cx:=aa6) true apy Tryz.func95 hq ⟨zs0,fun x=>x.1.1⟩ (fun x=>by kernel_rfl)
def Ig(m:M.ay->Option (M.ay)):aK K:={f:=96,sh:=oh,R:=M.ay,run:=fun x=>m x.2.1,dflt:=default,out:=fun r=>(Sh.enc D (.bA []) (),aQ.encs D [.el U.dr] (r,()))}
theorem N8:aA (Ig (M.rK)):=bm (cx:=gU) true ia Tryz.func96 hq ⟨NN,fun x=>x.2.1⟩ (fun x=>by kernel_rfl)
def qJ(m:M.ay->Option ((List UInt8)×M.ay)):aK K:={f:=62,sh:=oh,R:=(List UInt8)×M.ay,run:=fun x=>m x.2.1,dflt:=default,out:=fun r=>(Sh.enc D (.str) r.1,aQ.encs D [.el U.dr] (r.2,()))}
def aa7:Cx K:=bD [(45,.aX),(95,.plain),(96,.aX)] [wU M.lE,aa5 M.A3,Ig M.rK] []
theorem apA:aY aa7:=bw aO _ (af zo (af apz (af N8 aB)))
theorem sE:aA (qJ (M.fX)):=bm (cx:=aa7) true apA Tryz.func62 hq ⟨NP,fun x=>(x.1.1,x.2.1)⟩ (fun x=>by kernel_rfl)
def Nq(m:Option ((List (List UInt8)))):aK K:={f:=101,sh:=⟨[],[]⟩,R:=(List (List UInt8)),run:=fun x=>m,dflt:=default,out:=fun r=>(Sh.enc D (.own 0) (),aQ.encs D [.arr U.str] (r,()))}
def aa8:Cx K:={jD with mode:=iF .plain [],xk:=[[some U.str]],call:=callOf D [],loop:=gG []}
theorem apB:aY aa8:=bw aO _ aB
theorem VW:aA (Nq (M.jP)):=bm (cx:=aa8) false apB Tryz.func101 hq ⟨⟨[.own 0],[.arr U.str]⟩,fun x=>x.2.1⟩ (fun x=>by kernel_rfl)
def Nr(m:Option ((List (List UInt8)))):aK K:={f:=102,sh:=⟨[],[]⟩,R:=(List (List UInt8)),run:=fun x=>m,dflt:=default,out:=fun r=>(Sh.enc D (.ax U.str) r,aQ.encs D [] ())}
theorem VX:aA (Nr (M.jQ)):=bm (cx:=gU) true ia Tryz.func102 hq ⟨C6,fun x=>x.1.1⟩ (fun x=>by kernel_rfl)
def apC(y:Int⊕Unit){R:Type}(k:KT R):R:=match y with|.inl a0=>kk k Ex.ret ⟨[iq0],[.dead]⟩ ((a0,()),((),()))|.inr a1=>kk k (Ex.exit 0) GZ (((),()),((),()))
def apD:List (cu K ((Int)⊕Unit)):=[⟨Ex.ret,⟨[iq0],[.dead]⟩,fun x=>.inl x.1.1⟩,⟨(Ex.exit 0),GZ,fun x=>.inr (())⟩]
def aa9:bM K:=bS D false 22 1 [0,3,4] [2] ZI (fun x=>M.tM x.1.1 x.2.2.1 ae x.1.2.2.1) apC
def N9(m:(List UInt8)->Option Int):aK K:=cI 163 zs1 (fun x=>m x.1.1)
def Ih:Cx K:=bD [(101,.fresh),(102,.jI)] [Nq M.jP,Nr M.jQ] [(3,aa9)]
theorem aba:aY Ih:=bw aO _ (af VW (af VX aB))
theorem apE:bP Ih (bB (bK Tryz.f163) 0) aa9:=lk (cx:=Ih) (sh:=ZI) (run:=fun n x=>M.tM x.1.1 x.2.2.1 n x.1.2.2.1) (bR:=apD) aba (fun m x=>by kernel_rfl) (af ⟨dK,fun _ _ _=>rfl⟩ (af ⟨bW,fun _ _ _=>rfl⟩ aB))
theorem abb:aA (N9 (M.tL)):=bm (cx:=Ih) true aba Tryz.func163 (hl1 apE) ⟨jl,fun x=>x.1.1⟩ (fun x=>by kernel_rfl)
def abd(m:(List UInt8)->M.ay->Option (Bool×M.ay)):aK K:={f:=98,sh:=HK,R:=Bool×M.ay,run:=fun x=>m x.1.2.1 x.2.1,dflt:=default,out:=fun r=>(Sh.enc D (.bool) r.1,aQ.encs D [.el U.dr] (r.2,()))}
def abe:Cx K:=bD [(45,.aX)] [wU M.lE] []
theorem apF:aY abe:=bw aO _ (af zo aB)
theorem apG:aA (abd (M.A2)):=bm (cx:=abe) true apF Tryz.func98 hq ⟨⟨[.bool],[.el U.dr]⟩,fun x=>(x.1.1,x.2.1)⟩ (fun x=>by kernel_rfl)
def m7(m:(List UInt8)->M.ay->Option (Bool×M.ay)):aK K:={f:=64,sh:=HK,R:=Bool×M.ay,run:=fun x=>m x.1.2.1 x.2.1,dflt:=default,out:=fun r=>(Sh.enc D (.bool) r.1,aQ.encs D [.el U.dr] (r.2,()))}
def abf:Cx K:=bD [(98,.aX),(96,.aX)] [abd M.A2,Ig M.rK] []
theorem apH:aY abf:=bw aO _ (af apG (af N8 aB))
theorem oj:aA (m7 (M.dN)):=bm (cx:=abf) true apH Tryz.func64 hq ⟨⟨[.bool],[.el U.dr]⟩,fun x=>(x.1.1,x.2.1)⟩ (fun x=>by kernel_rfl)
def oi(m:(List UInt8)->M.ay->Option (M.ay)):aK K:={f:=61,sh:=HK,R:=M.ay,run:=fun x=>m x.1.2.1 x.2.1,dflt:=default,out:=fun r=>(Sh.enc D (.bA []) (),aQ.encs D [.el U.dr] (r,()))}
def abg:Cx K:=bD [(64,.aX)] [m7 M.dN] []
theorem apI:aY abg:=bw aO _ (af oj aB)
theorem pA:aA (oi (M.dH)):=bm (cx:=abg) true apI Tryz.func61 hq ⟨NN,fun x=>x.2.1⟩ (fun x=>by kernel_rfl)
def abh(m:Int->M.av->Option ((List UInt8)×M.av)):aK K:={f:=140,sh:=⟨[.ptr 0 0,iq0,.fn 141 []],[.el U.parser]⟩,R:=(List UInt8)×M.av,run:=fun x=>m x.1.2.1 x.2.1,dflt:=default,out:=fun r=>(Sh.enc D (.str) r.1,aQ.encs D [.el U.parser] (r.2,()))}
def abj:Cx K:=bD [(141,.plain)] [NY M.wB] []
theorem apJ:aY abj:=bw aO _ (af aah aB)
theorem apK:aA (abh (M.A4)):=bm (cx:=abj) true apJ Tryz.func140 hq ⟨zG,fun x=>(x.1.1,x.2.1)⟩ (fun x=>by kernel_rfl)
def sK(m:M.av->Option ((List UInt8)×M.av)):aK K:={f:=111,sh:=uU,R:=(List UInt8)×M.av,run:=fun x=>m x.2.1,dflt:=default,out:=fun r=>(Sh.enc D (.str) r.1,aQ.encs D [.el U.parser] (r.2,()))}
def abk:Cx K:=bD [(140,.aX)] [abh M.A4] []
theorem apL:aY abk:=bw aO _ (af apK aB)
theorem uV:aA (sK (M.gJ)):=bm (cx:=abk) true apL Tryz.func111 hq ⟨zG,fun x=>(x.1.1,x.2.1)⟩ (fun x=>by kernel_rfl)
def GF(m:Option ((List (List UInt8)))):aK K:={f:=134,sh:=⟨[],[]⟩,R:=(List (List UInt8)),run:=fun x=>m,dflt:=default,out:=fun r=>(Sh.enc D (.ax U.str) r,aQ.encs D [] ())}
theorem Nv:aA (GF (M.fR)):=bm (cx:=gU) true ia Tryz.func134 hq ⟨C6,fun x=>x.1.1⟩ (fun x=>by kernel_rfl)
def Oa(m:(List UInt8)->Option Bool):aK K:=cB 200 zs1 (fun x=>m x.1.1)
def abl:Cx K:=bD [(134,.jI),(217,.plain)] [GF M.fR,aav M.EY] []
theorem apM:aY abl:=bw aO _ (af Nv (af aoU aB))
theorem abm:aA (Oa (M.rL)):=bm (cx:=abl) true apM Tryz.func200 hq ⟨zs0,fun x=>x.1.1⟩ (fun x=>by kernel_rfl)
def zJ(m:(List UInt8)->M.av->Option (Bool×M.av)):aK K:={f:=142,sh:=HM,R:=Bool×M.av,run:=fun x=>m x.1.2.1 x.2.1,dflt:=default,out:=fun r=>(Sh.enc D (.bool) r.1,aQ.encs D [.el U.parser] (r.2,()))}
theorem Dj:aA (zJ (M.mR)):=bm (cx:=gU) true ia Tryz.func142 hq ⟨⟨[.bool],[.el U.parser]⟩,fun x=>(x.1.1,x.2.1)⟩ (fun x=>by kernel_rfl)
def m9(m:(List UInt8)->M.av->Option (Bool×M.av)):aK K:={f:=113,sh:=HM,R:=Bool×M.av,run:=fun x=>m x.1.2.1 x.2.1,dflt:=default,out:=fun r=>(Sh.enc D (.bool) r.1,aQ.encs D [.el U.parser] (r.2,()))}
def abn:Cx K:=bD [(142,.aX)] [zJ M.mR] []
theorem apN:aY abn:=bw aO _ (af Dj aB)
theorem oq:aA (m9 (M.eI)):=bm (cx:=abn) true apN Tryz.func113 hq ⟨⟨[.bool],[.el U.parser]⟩,fun x=>(x.1.1,x.2.1)⟩ (fun x=>by kernel_rfl)
def qP(m:(List UInt8)->M.av->Option (M.av)):aK K:={f:=110,sh:=HM,R:=M.av,run:=fun x=>m x.1.2.1 x.2.1,dflt:=default,out:=fun r=>(Sh.enc D (.bA []) (),aQ.encs D [.el U.parser] (r,()))}
def abo:Cx K:=bD [(113,.aX)] [m9 M.eI] []
theorem apO:aY abo:=bw aO _ (af oq aB)
theorem sL:aA (qP (M.dk)):=bm (cx:=abo) true apO Tryz.func110 hq ⟨⟨[.bA []],[.el U.parser]⟩,fun x=>x.2.1⟩ (fun x=>by kernel_rfl)
def ib(m:Int->M.av->Option (M.aa×M.av)):aK K:={f:=175,sh:=⟨[.ptr 0 0,iq0],[.el U.parser]⟩,R:=M.aa×M.av,run:=fun x=>m x.1.2.1 x.2.1,dflt:=default,out:=fun r=>(Sh.enc D (.el U.Term) r.1,aQ.encs D [.el U.parser] (r.2,()))}
def Dk(m:Int->(List UInt8)->Int->(List (List UInt8))->(List M.aa)->(List M.aj)->Int->Bool->Option (Int×(List UInt8)×Int×(List M.aj)×Int×Bool×(List (List UInt8))×(List M.aa))):aK K:={f:=202,sh:=⟨[.ptr 0 0,.ptr 1 0,.ptr 2 0],[.box [iq0,.str,.own 3,.own 4],.box [.ptr 5 0],.box [iq0],.arr U.str,.arr U.Term,.box [.ax U.Token,iq0,.bool]]⟩,R:=Int×(List UInt8)×Int×(List M.aj)×Int×Bool×(List (List UInt8))×(List M.aa),run:=fun x=>m x.2.1.1 x.2.1.2.1 x.2.2.2.1.1 x.2.2.2.2.1 x.2.2.2.2.2.1 x.2.2.2.2.2.2.1.1 x.2.2.2.2.2.2.1.2.1 x.2.2.2.2.2.2.1.2.2.1,dflt:=default,out:=fun r=>(Sh.enc D (.bA []) (),aQ.encs D [.box [iq0,.str,.own 6,.own 7],.box [.ptr 5 0],.box [iq0],.dead,.dead,.box [.ax U.Token,iq0,.bool],.arr U.str,.arr U.Term] ((r.1,(r.2.1,((),((),())))),(((),()),((r.2.2.1,()),((),((),((r.2.2.2.1,(r.2.2.2.2.1,(r.2.2.2.2.2.1,()))),(r.2.2.2.2.2.2.1,(r.2.2.2.2.2.2.2,())))))))))}
def abp(bn:Int->M.av->Option (M.aa×M.av)):Cx K:={jD with mode:=iF .plain [(175,.aX)],mv:=true,call:=callOf D [ib bn],loop:=gG []}
theorem apP(bn:Int->M.av->Option (M.aa×M.av))(eB:aA (ib bn)):aY (abp bn):=bw aO _ (af eB aB)
theorem Ii(bn:Int->M.av->Option (M.aa×M.av))(eB:aA (ib bn)):aA (Dk (M.ma bn)):=gZ (cx:=abp bn) (fz:=true) aO (apP bn eB) eP ⟨Tryz.func202,by kernel_rfl⟩ hq ⟨⟨[.bA []],[.box [iq0,.str,.own 6,.own 7],.box [.ptr 5 0],.box [iq0],.dead,.dead,.box [.ax U.Token,iq0,.bool],.arr U.str,.arr U.Term]⟩,fun x=>(x.2.1.1,x.2.1.2.1,x.2.2.2.1.1,x.2.2.2.2.2.2.1.1,x.2.2.2.2.2.2.1.2.1,x.2.2.2.2.2.2.1.2.2.1,x.2.2.2.2.2.2.2.1,x.2.2.2.2.2.2.2.2.1)⟩ (fun x=>rfl) (fun x=>by kernel_rfl)
def apQ(y:((List M.aj)×Int×Bool×Int×(List UInt8)×Int×(List (List UInt8))×(List M.aa))⊕((List M.aj)×Int×Bool×Int×(List UInt8)×Int×(List (List UInt8))×(List M.aa))){R:Type}(k:KT R):R:=match y with|.inl a0=>kk k Ex.ret HO ((),((a0.1,(a0.2.1,(a0.2.2.1,()))),((a0.2.2.2.1,(a0.2.2.2.2.1,((),((),())))),(((),()),((a0.2.2.2.2.2.1,()),((),((),(a0.2.2.2.2.2.2.1,(a0.2.2.2.2.2.2.2,())))))))))|.inr a1=>kk k (Ex.exit 0) HO ((),((a1.1,(a1.2.1,(a1.2.2.1,()))),((a1.2.2.2.1,(a1.2.2.2.2.1,((),((),())))),(((),()),((a1.2.2.2.2.2.1,()),((),((),(a1.2.2.2.2.2.2.1,(a1.2.2.2.2.2.2.2,())))))))))
def apR:List (cu K (((List M.aj)×Int×Bool×Int×(List UInt8)×Int×(List (List UInt8))×(List M.aa))⊕((List M.aj)×Int×Bool×Int×(List UInt8)×Int×(List (List UInt8))×(List M.aa)))):=[⟨Ex.ret,HO,fun x=>.inl (x.2.1.1,x.2.1.2.1,x.2.1.2.2.1,x.2.2.1.1,x.2.2.1.2.1,x.2.2.2.2.1.1,x.2.2.2.2.2.2.2.1,x.2.2.2.2.2.2.2.2.1)⟩,⟨(Ex.exit 0),HO,fun x=>.inr ((x.2.1.1,x.2.1.2.1,x.2.1.2.2.1,x.2.2.1.1,x.2.2.1.2.1,x.2.2.2.2.1.1,x.2.2.2.2.2.2.2.1,x.2.2.2.2.2.2.2.2.1))⟩]
def abq(bn:Int->M.av->Option (M.aa×M.av)):bM K:=bS D false 30 6 [0,1,2,6] [] ZJ (fun x=>M.rN bn x.1.2.1 ae x.1.2.2.2.1 x.2.1 x.2.2.1.1 x.2.2.1.2.1 x.2.2.2.2.1.1 x.2.2.2.2.2.2.2.1 x.2.2.2.2.2.2.2.2.1) apQ
def abr(m:Int->M.av->Int->(List UInt8)->Int->(List (List UInt8))->(List M.aa)->Option (M.av×Int×(List UInt8)×Int×(List (List UInt8))×(List M.aa))):aK K:={f:=176,sh:=⟨[.ptr 0 0,iq0,.fn 202 [.ptr 1 0,.ptr 2 0,.ptr 3 0]],[.el U.parser,.box [iq0,.str,.own 4,.own 5],.box [.ptr 0 0],.box [iq0],.arr U.str,.arr U.Term]⟩,R:=M.av×Int×(List UInt8)×Int×(List (List UInt8))×(List M.aa),run:=fun x=>m x.1.2.1 x.2.1 x.2.2.1.1 x.2.2.1.2.1 x.2.2.2.2.1.1 x.2.2.2.2.2.1 x.2.2.2.2.2.2.1,dflt:=default,out:=fun r=>(Sh.enc D (.bA []) (),aQ.encs D [.el U.parser,.box [iq0,.str,.own 6,.own 7],.box [.ptr 0 0],.box [iq0],.dead,.dead,.arr U.str,.arr U.Term] (r.1,((r.2.1,(r.2.2.1,((),((),())))),(((),()),((r.2.2.2.1,()),((),((),(r.2.2.2.2.1,(r.2.2.2.2.2,())))))))))}
def Ij(bn:Int->M.av->Option (M.aa×M.av)):Cx K:={jD with mode:=iF .plain [(113,.aX),(202,.aX)],mv:=true,call:=callOf D [Dk (M.ma bn),m9 M.eI],loop:=gG [(1,abq bn)]}
theorem abt(bn:Int->M.av->Option (M.aa×M.av))(eB:aA (ib bn)):aY (Ij bn):=bw aO _ (af (Ii bn eB) (af oq aB))
theorem apS(bn:Int->M.av->Option (M.aa×M.av))(eB:aA (ib bn)):bP (Ij bn) (bB (bK Tryz.f176) 0) (abq bn):=lk (cx:=Ij bn) (sh:=ZJ) (run:=fun n x=>M.rN bn x.1.2.1 n x.1.2.2.2.1 x.2.1 x.2.2.1.1 x.2.2.1.2.1 x.2.2.2.2.1.1 x.2.2.2.2.2.2.2.1 x.2.2.2.2.2.2.2.2.1) (bR:=apR) (abt bn eB) (fun m x=>by kernel_rfl) (af ⟨dK,fun _ _ _=>rfl⟩ (af ⟨bW,fun _ _ _=>rfl⟩ aB))
theorem apT(bn:Int->M.av->Option (M.aa×M.av))(eB:aA (ib bn)):aA (abr (M.yi bn)):=gZ (cx:=Ij bn) (fz:=true) aO (abt bn eB) eP ⟨Tryz.func176,by kernel_rfl⟩ (hl1 (apS bn eB)) ⟨NQ,fun x=>(x.2.1,x.2.2.1.1,x.2.2.1.2.1,x.2.2.2.2.1.1,x.2.2.2.2.2.2.2.1,x.2.2.2.2.2.2.2.2.1)⟩ (fun x=>rfl) (fun x=>by kernel_rfl)
def abu(m:(List UInt8)->Option Bool):aK K:=cB 199 zs1 (fun x=>m x.1.1)
def abv:Cx K:=bD [(141,.plain),(200,.plain)] [NY M.wB,Oa M.rL] []
theorem apU:aY abv:=bw aO _ (af aah (af abm aB))
theorem apV:aA (abu (M.A8)):=bm (cx:=abv) true apU Tryz.func199 hq ⟨zs0,fun x=>x.1.1⟩ (fun x=>by kernel_rfl)
def abw(m:Int->M.av->Option ((List UInt8)×M.av)):aK K:={f:=140,sh:=⟨[.ptr 0 0,iq0,.fn 199 []],[.el U.parser]⟩,R:=(List UInt8)×M.av,run:=fun x=>m x.1.2.1 x.2.1,dflt:=default,out:=fun r=>(Sh.enc D (.str) r.1,aQ.encs D [.el U.parser] (r.2,()))}
def abx:Cx K:=bD [(199,.plain)] [abu M.A8] []
theorem apW:aY abx:=bw aO _ (af apV aB)
theorem apX:aA (abw (M.A9)):=bm (cx:=abx) true apW Tryz.func140 hq ⟨zG,fun x=>(x.1.1,x.2.1)⟩ (fun x=>by kernel_rfl)
def Ik(m:M.av->Option ((List UInt8)×M.av)):aK K:={f:=174,sh:=uU,R:=(List UInt8)×M.av,run:=fun x=>m x.2.1,dflt:=default,out:=fun r=>(Sh.enc D (.str) r.1,aQ.encs D [.el U.parser] (r.2,()))}
def aby:Cx K:=bD [(140,.aX)] [abw M.A9] []
theorem apY:aY aby:=bw aO _ (af apX aB)
theorem Oc:aA (Ik (M.nD)):=bm (cx:=aby) true apY Tryz.func174 hq ⟨zG,fun x=>(x.1.1,x.2.1)⟩ (fun x=>by kernel_rfl)
def apZ(y:Int×(List UInt8)×(List (List UInt8))×(List M.aa)){R:Type}(k:KT R):R:=match y with|a0=>kk k (Ex.exit 0) ZK ((),((a0.1,(a0.2.1,((),((),())))),((),((),(a0.2.2.1,(a0.2.2.2,()))))))
def ap0:List (cu K (Int×(List UInt8)×(List (List UInt8))×(List M.aa))):=[⟨(Ex.exit 0),ZK,fun x=>(x.2.1.1,x.2.1.2.1,x.2.2.2.2.1,x.2.2.2.2.2.1)⟩]
def abz:bM K:=bS D false 46 3 [1] [] ZL (fun x=>M.mc x.2.1.1 x.2.1.2.1 x.2.2.2.2.1 ae x.2.2.2.2.2.1) apZ
def abA(m:M.av->Int->(List UInt8)->Int->(List (List UInt8))->(List M.aa)->Option (M.av×Int×(List UInt8)×Int×(List (List UInt8))×(List M.aa))):aK K:={f:=203,sh:=ZM,R:=M.av×Int×(List UInt8)×Int×(List (List UInt8))×(List M.aa),run:=fun x=>m x.2.1 x.2.2.1.1 x.2.2.1.2.1 x.2.2.2.2.1.1 x.2.2.2.2.2.1 x.2.2.2.2.2.2.1,dflt:=default,out:=fun r=>(Sh.enc D (.bA []) (),aQ.encs D [.el U.parser,.box [iq0,.str,.own 6,.own 7],.box [.ptr 0 0],.box [iq0],.dead,.dead,.arr U.str,.arr U.Term] (r.1,((r.2.1,(r.2.2.1,((),((),())))),(((),()),((r.2.2.2.1,()),((),((),(r.2.2.2.2.1,(r.2.2.2.2.2,())))))))))}
def Il(bn:Int->M.av->Option (M.aa×M.av)):Cx K:={jD with mode:=iF .plain [(113,.aX),(110,.aX),(202,.aX)],mv:=true,call:=callOf D [m9 M.eI,Dk (M.ma bn),qP M.dk],loop:=gG [(7,abz)]}
theorem abB(bn:Int->M.av->Option (M.aa×M.av))(eB:aA (ib bn)):aY (Il bn):=bw aO _ (af oq (af (Ii bn eB) (af sL aB)))
theorem ap1(bn:Int->M.av->Option (M.aa×M.av))(eB:aA (ib bn)):bP (Il bn) (bB (bK Tryz.f203) 0) abz:=lk (cx:=Il bn) (sh:=ZL) (run:=fun n x=>M.mc x.2.1.1 x.2.1.2.1 x.2.2.2.2.1 n x.2.2.2.2.2.1) (bR:=ap0) (abB bn eB) (fun m x=>by kernel_rfl) (af ⟨bW,fun _ _ _=>rfl⟩ aB)
theorem ap2(bn:Int->M.av->Option (M.aa×M.av))(eB:aA (ib bn)):aA (abA (M.Be bn)):=gZ (cx:=Il bn) (fz:=true) aO (abB bn eB) eP ⟨Tryz.func203,by kernel_rfl⟩ (hl1 (ap1 bn eB)) ⟨NQ,fun x=>(x.2.1,x.2.2.1.1,x.2.2.1.2.1,x.2.2.2.2.1.1,x.2.2.2.2.2.2.2.1,x.2.2.2.2.2.2.2.2.1)⟩ (fun x=>rfl) (fun x=>by kernel_rfl)
def abC(m:M.av->Int->(List UInt8)->Int->(List (List UInt8))->(List M.aa)->Option (M.av×Int×(List UInt8)×Int×(List (List UInt8))×(List M.aa))):aK K:={f:=205,sh:=ZM,R:=M.av×Int×(List UInt8)×Int×(List (List UInt8))×(List M.aa),run:=fun x=>m x.2.1 x.2.2.1.1 x.2.2.1.2.1 x.2.2.2.2.1.1 x.2.2.2.2.2.1 x.2.2.2.2.2.2.1,dflt:=default,out:=fun r=>(Sh.enc D (.bA []) (),aQ.encs D [.el U.parser,.box [iq0,.str,.own 6,.own 7],.box [.ptr 0 0],.box [iq0],.dead,.dead,.arr U.str,.arr U.Term] (r.1,((r.2.1,(r.2.2.1,((),((),())))),(((),()),((r.2.2.2.1,()),((),((),(r.2.2.2.2.1,(r.2.2.2.2.2,())))))))))}
def abD(bn:Int->M.av->Option (M.aa×M.av)):Cx K:={jD with mode:=iF .plain [(111,.aX),(110,.aX),(113,.aX),(202,.aX)],mv:=true,call:=callOf D [sK M.gJ,qP M.dk,Dk (M.ma bn),m9 M.eI],loop:=gG []}
theorem ap3(bn:Int->M.av->Option (M.aa×M.av))(eB:aA (ib bn)):aY (abD bn):=bw aO _ (af uV (af sL (af (Ii bn eB) (af oq aB))))
theorem ap4(bn:Int->M.av->Option (M.aa×M.av))(eB:aA (ib bn)):aA (abC (M.yj bn)):=gZ (cx:=abD bn) (fz:=true) aO (ap3 bn eB) eP ⟨Tryz.func205,by kernel_rfl⟩ hq ⟨NQ,fun x=>(x.2.1,x.2.2.1.1,x.2.2.1.2.1,x.2.2.2.2.1.1,x.2.2.2.2.2.2.2.1,x.2.2.2.2.2.2.2.2.1)⟩ (fun x=>rfl) (fun x=>by kernel_rfl)
def abE(m:Int->(List UInt8)->(List M.aj)->Int->Bool->(List (List UInt8))->(List M.aa)->Int->Option (Int×(List UInt8)×(List M.aj)×Int×Bool×Int×(List (List UInt8))×(List M.aa))):aK K:={f:=204,sh:=⟨[.ptr 0 0,.ptr 1 0,.ptr 2 0],[.box [.ptr 3 0],.box [iq0,.str,.own 4,.own 5],.box [.fn 202 [.ptr 1 0,.ptr 0 0,.ptr 6 0]],.box [.ax U.Token,iq0,.bool],.arr U.str,.arr U.Term,.box [iq0]]⟩,R:=Int×(List UInt8)×(List M.aj)×Int×Bool×Int×(List (List UInt8))×(List M.aa),run:=fun x=>m x.2.2.1.1 x.2.2.1.2.1 x.2.2.2.2.1.1 x.2.2.2.2.1.2.1 x.2.2.2.2.1.2.2.1 x.2.2.2.2.2.1 x.2.2.2.2.2.2.1 x.2.2.2.2.2.2.2.1.1,dflt:=default,out:=fun r=>(Sh.enc D (.bA []) (),aQ.encs D [.box [.ptr 3 0],.box [iq0,.str,.own 7,.own 8],.box [.fn 202 [.ptr 1 0,.ptr 0 0,.ptr 6 0]],.box [.ax U.Token,iq0,.bool],.dead,.dead,.box [iq0],.arr U.str,.arr U.Term] (((),()),((r.1,(r.2.1,((),((),())))),((((),((),((),()))),()),((r.2.2.1,(r.2.2.2.1,(r.2.2.2.2.1,()))),((),((),((r.2.2.2.2.2.1,()),(r.2.2.2.2.2.2.1,(r.2.2.2.2.2.2.2,()))))))))))}
def abG(bn:Int->M.av->Option (M.aa×M.av)):Cx K:={jD with mode:=iF .plain [(205,.aX)],mv:=true,call:=callOf D [abC (M.yj bn)],loop:=gG []}
theorem ap5(bn:Int->M.av->Option (M.aa×M.av))(eB:aA (ib bn)):aY (abG bn):=bw aO _ (af (ap4 bn eB) aB)
theorem ap6(bn:Int->M.av->Option (M.aa×M.av))(eB:aA (ib bn)):aA (abE (M.E0 bn)):=gZ (cx:=abG bn) (fz:=true) aO (ap5 bn eB) eP ⟨Tryz.func204,by kernel_rfl⟩ hq ⟨⟨[.bA []],[.box [.ptr 3 0],.box [iq0,.str,.own 7,.own 8],.box [.fn 202 [.ptr 1 0,.ptr 0 0,.ptr 6 0]],.box [.ax U.Token,iq0,.bool],.dead,.dead,.box [iq0],.arr U.str,.arr U.Term]⟩,fun x=>(x.2.2.1.1,x.2.2.1.2.1,x.2.2.2.2.1.1,x.2.2.2.2.1.2.1,x.2.2.2.2.1.2.2.1,x.2.2.2.2.2.2.2.1.1,x.2.2.2.2.2.2.2.2.1,x.2.2.2.2.2.2.2.2.2.1)⟩ (fun x=>rfl) (fun x=>by kernel_rfl)
def ap7(y:((List M.aj)×Int×Bool×Int×(List UInt8)×Int×(List (List UInt8))×(List M.aa))⊕((List M.aj)×Int×Bool×Int×(List UInt8)×Int×(List (List UInt8))×(List M.aa))){R:Type}(k:KT R):R:=match y with|.inl a0=>kk k Ex.ret HQ ((),((a0.1,(a0.2.1,(a0.2.2.1,()))),(((),()),((a0.2.2.2.1,(a0.2.2.2.2.1,((),((),())))),((((),((),((),()))),()),((),((),((a0.2.2.2.2.2.1,()),(a0.2.2.2.2.2.2.1,(a0.2.2.2.2.2.2.2,()))))))))))|.inr a1=>kk k (Ex.exit 0) HQ ((),((a1.1,(a1.2.1,(a1.2.2.1,()))),(((),()),((a1.2.2.2.1,(a1.2.2.2.2.1,((),((),())))),((((),((),((),()))),()),((),((),((a1.2.2.2.2.2.1,()),(a1.2.2.2.2.2.2.1,(a1.2.2.2.2.2.2.2,()))))))))))
def ap8:List (cu K (((List M.aj)×Int×Bool×Int×(List UInt8)×Int×(List (List UInt8))×(List M.aa))⊕((List M.aj)×Int×Bool×Int×(List UInt8)×Int×(List (List UInt8))×(List M.aa)))):=[⟨Ex.ret,HQ,fun x=>.inl (x.2.1.1,x.2.1.2.1,x.2.1.2.2.1,x.2.2.2.1.1,x.2.2.2.1.2.1,x.2.2.2.2.2.2.2.1.1,x.2.2.2.2.2.2.2.2.1,x.2.2.2.2.2.2.2.2.2.1)⟩,⟨(Ex.exit 0),HQ,fun x=>.inr ((x.2.1.1,x.2.1.2.1,x.2.1.2.2.1,x.2.2.2.1.1,x.2.2.2.1.2.1,x.2.2.2.2.2.2.2.1.1,x.2.2.2.2.2.2.2.2.1,x.2.2.2.2.2.2.2.2.2.1))⟩]
def abH(bn:Int->M.av->Option (M.aa×M.av)):bM K:=bS D false 30 7 [0,1,2,6] [] ZN (fun x=>M.rO bn x.1.2.1 ae x.1.2.2.2.1 x.2.1 x.2.2.2.1.1 x.2.2.2.1.2.1 x.2.2.2.2.2.2.2.1.1 x.2.2.2.2.2.2.2.2.1 x.2.2.2.2.2.2.2.2.2.1) ap7
def abI(m:Int->M.av->Int->(List UInt8)->(List (List UInt8))->(List M.aa)->Int->Option (M.av×Int×(List UInt8)×Int×(List (List UInt8))×(List M.aa))):aK K:={f:=176,sh:=⟨[.ptr 0 0,iq0,.fn 204 [.ptr 1 0,.ptr 2 0,.ptr 3 0]],[.el U.parser,.box [.ptr 0 0],.box [iq0,.str,.own 4,.own 5],.box [.fn 202 [.ptr 2 0,.ptr 1 0,.ptr 6 0]],.arr U.str,.arr U.Term,.box [iq0]]⟩,R:=M.av×Int×(List UInt8)×Int×(List (List UInt8))×(List M.aa),run:=fun x=>m x.1.2.1 x.2.1 x.2.2.2.1.1 x.2.2.2.1.2.1 x.2.2.2.2.2.1 x.2.2.2.2.2.2.1 x.2.2.2.2.2.2.2.1.1,dflt:=default,out:=fun r=>(Sh.enc D (.bA []) (),aQ.encs D [.el U.parser,.box [.ptr 0 0],.box [iq0,.str,.own 7,.own 8],.box [.fn 202 [.ptr 2 0,.ptr 1 0,.ptr 6 0]],.dead,.dead,.box [iq0],.arr U.str,.arr U.Term] (r.1,(((),()),((r.2.1,(r.2.2.1,((),((),())))),((((),((),((),()))),()),((),((),((r.2.2.2.1,()),(r.2.2.2.2.1,(r.2.2.2.2.2,()))))))))))}
def Im(bn:Int->M.av->Option (M.aa×M.av)):Cx K:={jD with mode:=iF .plain [(113,.aX),(204,.aX)],mv:=true,call:=callOf D [abE (M.E0 bn),m9 M.eI],loop:=gG [(1,abH bn)]}
theorem abJ(bn:Int->M.av->Option (M.aa×M.av))(eB:aA (ib bn)):aY (Im bn):=bw aO _ (af (ap6 bn eB) (af oq aB))
theorem ap9(bn:Int->M.av->Option (M.aa×M.av))(eB:aA (ib bn)):bP (Im bn) (bB (bK Tryz.f176) 0) (abH bn):=lk (cx:=Im bn) (sh:=ZN) (run:=fun n x=>M.rO bn x.1.2.1 n x.1.2.2.2.1 x.2.1 x.2.2.2.1.1 x.2.2.2.1.2.1 x.2.2.2.2.2.2.2.1.1 x.2.2.2.2.2.2.2.2.1 x.2.2.2.2.2.2.2.2.2.1) (bR:=ap8) (abJ bn eB) (fun m x=>by kernel_rfl) (af ⟨dK,fun _ _ _=>rfl⟩ (af ⟨bW,fun _ _ _=>rfl⟩ aB))
theorem aqa(bn:Int->M.av->Option (M.aa×M.av))(eB:aA (ib bn)):aA (abI (M.yk bn)):=gZ (cx:=Im bn) (fz:=true) aO (abJ bn eB) eP ⟨Tryz.func176,by kernel_rfl⟩ (hl1 (ap9 bn eB)) ⟨⟨[.bA []],[.el U.parser,.box [.ptr 0 0],.box [iq0,.str,.own 7,.own 8],.box [.fn 202 [.ptr 2 0,.ptr 1 0,.ptr 6 0]],.dead,.dead,.box [iq0],.arr U.str,.arr U.Term]⟩,fun x=>(x.2.1,x.2.2.2.1.1,x.2.2.2.1.2.1,x.2.2.2.2.2.2.2.1.1,x.2.2.2.2.2.2.2.2.1,x.2.2.2.2.2.2.2.2.2.1)⟩ (fun x=>rfl) (fun x=>by kernel_rfl)
def abK(bn:Int->M.av->Option (M.aa×M.av)):Cx K:=bD [(111,.aX),(200,.plain),(134,.jI),(201,.plain),(110,.aX),(176,.aX),(174,.aX),(203,.aX),(202,.aX)] [sK M.gJ,Oa M.rL,GF M.fR,N1 M.vM,qP M.dk,Dk (M.ma bn),abr (M.yi bn),Ik M.nD,abA (M.Be bn),abI (M.yk bn)] []
theorem aqb(bn:Int->M.av->Option (M.aa×M.av))(eB:aA (ib bn)):aY (abK bn):=bw aO _ (af uV (af abm (af Nv (af aau (af sL (af (Ii bn eB) (af (apT bn eB) (af Oc (af (ap2 bn eB) (af (aqa bn eB) aB))))))))))
theorem aqc(bn:Int->M.av->Option (M.aa×M.av))(eB:aA (ib bn)):aA (ib (M.tP bn)):=gZ (cx:=abK bn) (fz:=true) aO (aqb bn eB) eP ⟨Tryz.func175,by kernel_rfl⟩ hq ⟨⟨[.el U.Term],[.el U.parser]⟩,fun x=>(x.1.1,x.2.1)⟩ (fun x=>rfl) (fun x=>by kernel_rfl)
theorem abL:∀n,aA (ib (M.vO n))|0=>pY fun _=>rfl|n+1=>aqc (M.vO n) (abL n)
theorem Oe:aA (ib (M.rQ)):=abL ae
def abM(m:Int->M.av->Option ((List UInt8)×M.av)):aK K:={f:=140,sh:=⟨[.ptr 0 0,iq0,.fn 24 []],[.el U.parser]⟩,R:=(List UInt8)×M.av,run:=fun x=>m x.1.2.1 x.2.1,dflt:=default,out:=fun r=>(Sh.enc D (.str) r.1,aQ.encs D [.el U.parser] (r.2,()))}
def abN:Cx K:=bD [(24,.plain)] [NM M.wE] []
theorem aqd:aY abN:=bw aO _ (af Zb aB)
theorem aqe:aA (abM (M.Ba)):=bm (cx:=abN) true aqd Tryz.func140 hq ⟨zG,fun x=>(x.1.1,x.2.1)⟩ (fun x=>by kernel_rfl)
def Of(m:M.av->Option ((List UInt8)×M.av)):aK K:={f:=112,sh:=uU,R:=(List UInt8)×M.av,run:=fun x=>m x.2.1,dflt:=default,out:=fun r=>(Sh.enc D (.str) r.1,aQ.encs D [.el U.parser] (r.2,()))}
def abO:Cx K:=bD [(140,.aX)] [abM M.Ba] []
theorem aqf:aY abO:=bw aO _ (af aqe aB)
theorem abP:aA (Of (M.tN)):=bm (cx:=abO) true aqf Tryz.func112 hq ⟨zG,fun x=>(x.1.1,x.2.1)⟩ (fun x=>by kernel_rfl)
def abQ(m:Int->(List UInt8)->Int->(List UInt8)->Bool->(List UInt8)->(List UInt8)->(List UInt8)->(List M.aj)->Int->Bool->(List (List UInt8))->(List M.aa)->(List M.aV)->(List M.aW)->Option (Int×(List UInt8)×Int×(List UInt8)×Bool×(List UInt8)×(List UInt8)×(List UInt8)×(List M.aj)×Int×Bool×(List (List UInt8))×(List M.aa)×(List M.aV)×(List M.aW))):aK K:={f:=198,sh:=ZO,R:=Int×(List UInt8)×Int×(List UInt8)×Bool×(List UInt8)×(List UInt8)×(List UInt8)×(List M.aj)×Int×Bool×(List (List UInt8))×(List M.aa)×(List M.aV)×(List M.aW),run:=fun x=>m x.2.2.1.1 x.2.2.1.2.1 x.2.2.1.2.2.1 x.2.2.1.2.2.2.1 x.2.2.1.2.2.2.2.2.2.2.1 x.2.2.1.2.2.2.2.2.2.2.2.1 x.2.2.1.2.2.2.2.2.2.2.2.2.1 x.2.2.1.2.2.2.2.2.2.2.2.2.2.1 x.2.2.2.1.1 x.2.2.2.1.2.1 x.2.2.2.1.2.2.1 x.2.2.2.2.1 x.2.2.2.2.2.1 x.2.2.2.2.2.2.1 x.2.2.2.2.2.2.2.1,dflt:=default,out:=fun r=>(Sh.enc D (.bA []) (),aQ.encs D [.box [.ptr 2 0],.box [iq0,.str,iq0,.str,.own 7,.own 8,.own 9,.bool,.str,.str,.str,.own 10],.box [.ax U.Token,iq0,.bool],.dead,.dead,.dead,.dead,.arr U.str,.arr U.Term,.arr U.dV,.arr U.eA] (((),()),((r.1,(r.2.1,(r.2.2.1,(r.2.2.2.1,((),((),((),(r.2.2.2.2.1,(r.2.2.2.2.2.1,(r.2.2.2.2.2.2.1,(r.2.2.2.2.2.2.2.1,((),())))))))))))),((r.2.2.2.2.2.2.2.2.1,(r.2.2.2.2.2.2.2.2.2.1,(r.2.2.2.2.2.2.2.2.2.2.1,()))),((),((),((),((),(r.2.2.2.2.2.2.2.2.2.2.2.1,(r.2.2.2.2.2.2.2.2.2.2.2.2.1,(r.2.2.2.2.2.2.2.2.2.2.2.2.2.1,(r.2.2.2.2.2.2.2.2.2.2.2.2.2.2,()))))))))))))}
def abR:Cx K:={jD with mode:=iF .plain [(111,.aX),(110,.aX),(175,.aX)],mv:=true,call:=callOf D [sK M.gJ,qP M.dk,ib M.rQ],loop:=gG []}
theorem aqg:aY abR:=bw aO _ (af uV (af sL (af Oe aB)))
theorem aqh:aA (abQ (M.Bh)):=bm (cx:=abR) true aqg Tryz.func198 hq ⟨ZP,fun x=>(x.2.2.1.1,x.2.2.1.2.1,x.2.2.1.2.2.1,x.2.2.1.2.2.2.1,x.2.2.1.2.2.2.2.2.2.2.1,x.2.2.1.2.2.2.2.2.2.2.2.1,x.2.2.1.2.2.2.2.2.2.2.2.2.1,x.2.2.1.2.2.2.2.2.2.2.2.2.2.1,x.2.2.2.1.1,x.2.2.2.1.2.1,x.2.2.2.1.2.2.1,x.2.2.2.2.2.2.2.2.1,x.2.2.2.2.2.2.2.2.2.1,x.2.2.2.2.2.2.2.2.2.2.1,x.2.2.2.2.2.2.2.2.2.2.2.1)⟩ (fun x=>by kernel_rfl)
def abS(y:((List M.aj)×Int×Bool×Int×(List UInt8)×Int×(List UInt8)×Bool×(List UInt8)×(List UInt8)×(List UInt8)×(List (List UInt8))×(List M.aa)×(List M.aV)×(List M.aW))⊕((List M.aj)×Int×Bool×Int×(List UInt8)×Int×(List UInt8)×Bool×(List UInt8)×(List UInt8)×(List UInt8)×(List (List UInt8))×(List M.aa)×(List M.aV)×(List M.aW))){R:Type}(k:KT R):R:=match y with|.inl a0=>kk k Ex.ret HH ((),((a0.1,(a0.2.1,(a0.2.2.1,()))),(((),()),((a0.2.2.2.1,(a0.2.2.2.2.1,(a0.2.2.2.2.2.1,(a0.2.2.2.2.2.2.1,((),((),((),(a0.2.2.2.2.2.2.2.1,(a0.2.2.2.2.2.2.2.2.1,(a0.2.2.2.2.2.2.2.2.2.1,(a0.2.2.2.2.2.2.2.2.2.2.1,((),())))))))))))),((),((),((),((),(a0.2.2.2.2.2.2.2.2.2.2.2.1,(a0.2.2.2.2.2.2.2.2.2.2.2.2.1,(a0.2.2.2.2.2.2.2.2.2.2.2.2.2.1,(a0.2.2.2.2.2.2.2.2.2.2.2.2.2.2,()))))))))))))|.inr a1=>kk k (Ex.exit 0) HH ((),((a1.1,(a1.2.1,(a1.2.2.1,()))),(((),()),((a1.2.2.2.1,(a1.2.2.2.2.1,(a1.2.2.2.2.2.1,(a1.2.2.2.2.2.2.1,((),((),((),(a1.2.2.2.2.2.2.2.1,(a1.2.2.2.2.2.2.2.2.1,(a1.2.2.2.2.2.2.2.2.2.1,(a1.2.2.2.2.2.2.2.2.2.2.1,((),())))))))))))),((),((),((),((),(a1.2.2.2.2.2.2.2.2.2.2.2.1,(a1.2.2.2.2.2.2.2.2.2.2.2.2.1,(a1.2.2.2.2.2.2.2.2.2.2.2.2.2.1,(a1.2.2.2.2.2.2.2.2.2.2.2.2.2.2,()))))))))))))
def abT:List (cu K (((List M.aj)×Int×Bool×Int×(List UInt8)×Int×(List UInt8)×Bool×(List UInt8)×(List UInt8)×(List UInt8)×(List (List UInt8))×(List M.aa)×(List M.aV)×(List M.aW))⊕((List M.aj)×Int×Bool×Int×(List UInt8)×Int×(List UInt8)×Bool×(List UInt8)×(List UInt8)×(List UInt8)×(List (List UInt8))×(List M.aa)×(List M.aV)×(List M.aW)))):=[⟨Ex.ret,HH,fun x=>.inl (x.2.1.1,x.2.1.2.1,x.2.1.2.2.1,x.2.2.2.1.1,x.2.2.2.1.2.1,x.2.2.2.1.2.2.1,x.2.2.2.1.2.2.2.1,x.2.2.2.1.2.2.2.2.2.2.2.1,x.2.2.2.1.2.2.2.2.2.2.2.2.1,x.2.2.2.1.2.2.2.2.2.2.2.2.2.1,x.2.2.2.1.2.2.2.2.2.2.2.2.2.2.1,x.2.2.2.2.2.2.2.2.1,x.2.2.2.2.2.2.2.2.2.1,x.2.2.2.2.2.2.2.2.2.2.1,x.2.2.2.2.2.2.2.2.2.2.2.1)⟩,⟨(Ex.exit 0),HH,fun x=>.inr ((x.2.1.1,x.2.1.2.1,x.2.1.2.2.1,x.2.2.2.1.1,x.2.2.2.1.2.1,x.2.2.2.1.2.2.1,x.2.2.2.1.2.2.2.1,x.2.2.2.1.2.2.2.2.2.2.2.1,x.2.2.2.1.2.2.2.2.2.2.2.2.1,x.2.2.2.1.2.2.2.2.2.2.2.2.2.1,x.2.2.2.1.2.2.2.2.2.2.2.2.2.2.1,x.2.2.2.2.2.2.2.2.1,x.2.2.2.2.2.2.2.2.2.1,x.2.2.2.2.2.2.2.2.2.2.1,x.2.2.2.2.2.2.2.2.2.2.2.1))⟩]
def abU:bM K:=bS D false 30 7 [0,1,2,6] [] ZQ (fun x=>M.tU x.1.2.1 ae x.1.2.2.2.1 x.2.1 x.2.2.2.1.1 x.2.2.2.1.2.1 x.2.2.2.1.2.2.1 x.2.2.2.1.2.2.2.1 x.2.2.2.1.2.2.2.2.2.2.2.1 x.2.2.2.1.2.2.2.2.2.2.2.2.1 x.2.2.2.1.2.2.2.2.2.2.2.2.2.1 x.2.2.2.1.2.2.2.2.2.2.2.2.2.2.1 x.2.2.2.2.2.2.2.2.1 x.2.2.2.2.2.2.2.2.2.1 x.2.2.2.2.2.2.2.2.2.2.1 x.2.2.2.2.2.2.2.2.2.2.2.1) abS
def abV(m:Int->M.av->Int->(List UInt8)->Int->(List UInt8)->Bool->(List UInt8)->(List UInt8)->(List UInt8)->(List (List UInt8))->(List M.aa)->(List M.aV)->(List M.aW)->Option (M.av×Int×(List UInt8)×Int×(List UInt8)×Bool×(List UInt8)×(List UInt8)×(List UInt8)×(List (List UInt8))×(List M.aa)×(List M.aV)×(List M.aW))):aK K:={f:=176,sh:=⟨[.ptr 0 0,iq0,.fn 198 [.ptr 1 0,.ptr 2 0]],[.el U.parser,.box [.ptr 0 0],.box [iq0,.str,iq0,.str,.own 3,.own 4,.own 5,.bool,.str,.str,.str,.own 6],.arr U.str,.arr U.Term,.arr U.dV,.arr U.eA]⟩,R:=M.av×Int×(List UInt8)×Int×(List UInt8)×Bool×(List UInt8)×(List UInt8)×(List UInt8)×(List (List UInt8))×(List M.aa)×(List M.aV)×(List M.aW),run:=fun x=>m x.1.2.1 x.2.1 x.2.2.2.1.1 x.2.2.2.1.2.1 x.2.2.2.1.2.2.1 x.2.2.2.1.2.2.2.1 x.2.2.2.1.2.2.2.2.2.2.2.1 x.2.2.2.1.2.2.2.2.2.2.2.2.1 x.2.2.2.1.2.2.2.2.2.2.2.2.2.1 x.2.2.2.1.2.2.2.2.2.2.2.2.2.2.1 x.2.2.2.2.1 x.2.2.2.2.2.1 x.2.2.2.2.2.2.1 x.2.2.2.2.2.2.2.1,dflt:=default,out:=fun r=>(Sh.enc D (.bA []) (),aQ.encs D [.el U.parser,.box [.ptr 0 0],.box [iq0,.str,iq0,.str,.own 7,.own 8,.own 9,.bool,.str,.str,.str,.own 10],.dead,.dead,.dead,.dead,.arr U.str,.arr U.Term,.arr U.dV,.arr U.eA] (r.1,(((),()),((r.2.1,(r.2.2.1,(r.2.2.2.1,(r.2.2.2.2.1,((),((),((),(r.2.2.2.2.2.1,(r.2.2.2.2.2.2.1,(r.2.2.2.2.2.2.2.1,(r.2.2.2.2.2.2.2.2.1,((),())))))))))))),((),((),((),((),(r.2.2.2.2.2.2.2.2.2.1,(r.2.2.2.2.2.2.2.2.2.2.1,(r.2.2.2.2.2.2.2.2.2.2.2.1,(r.2.2.2.2.2.2.2.2.2.2.2.2,()))))))))))))}
def Io:Cx K:={jD with mode:=iF .plain [(113,.aX),(198,.aX)],mv:=true,call:=callOf D [abQ M.Bh,m9 M.eI],loop:=gG [(1,abU)]}
theorem abW:aY Io:=bw aO _ (af aqh (af oq aB))
theorem aqi:bP Io (bB (bK Tryz.f176) 0) abU:=lk (cx:=Io) (sh:=ZQ) (run:=fun n x=>M.tU x.1.2.1 n x.1.2.2.2.1 x.2.1 x.2.2.2.1.1 x.2.2.2.1.2.1 x.2.2.2.1.2.2.1 x.2.2.2.1.2.2.2.1 x.2.2.2.1.2.2.2.2.2.2.2.1 x.2.2.2.1.2.2.2.2.2.2.2.2.1 x.2.2.2.1.2.2.2.2.2.2.2.2.2.1 x.2.2.2.1.2.2.2.2.2.2.2.2.2.2.1 x.2.2.2.2.2.2.2.2.1 x.2.2.2.2.2.2.2.2.2.1 x.2.2.2.2.2.2.2.2.2.2.1 x.2.2.2.2.2.2.2.2.2.2.2.1) (bR:=abT) abW (fun m x=>by kernel_rfl) (af ⟨dK,fun _ _ _=>rfl⟩ (af ⟨bW,fun _ _ _=>rfl⟩ aB))
theorem aqj:aA (abV (M.yn)):=bm (cx:=Io) true abW Tryz.func176 (hl1 aqi) ⟨ZR,fun x=>(x.2.1,x.2.2.2.1.1,x.2.2.2.1.2.1,x.2.2.2.1.2.2.1,x.2.2.2.1.2.2.2.1,x.2.2.2.1.2.2.2.2.2.2.2.1,x.2.2.2.1.2.2.2.2.2.2.2.2.1,x.2.2.2.1.2.2.2.2.2.2.2.2.2.1,x.2.2.2.1.2.2.2.2.2.2.2.2.2.2.1,x.2.2.2.2.2.2.2.2.1,x.2.2.2.2.2.2.2.2.2.1,x.2.2.2.2.2.2.2.2.2.2.1,x.2.2.2.2.2.2.2.2.2.2.2.1)⟩ (fun x=>by kernel_rfl)
def abX(m:(List UInt8)->M.av->Option (M.ai×M.av)):aK K:={f:=173,sh:=HM,R:=M.ai×M.av,run:=fun x=>m x.1.2.1 x.2.1,dflt:=default,out:=fun r=>(Sh.enc D (.el U.Item) r.1,aQ.encs D [.el U.parser] (r.2,()))}
def abY:Cx K:=bD [(110,.aX),(113,.aX),(142,.aX),(176,.aX),(175,.aX)] [qP M.dk,m9 M.eI,zJ M.mR,abV M.yn,ib M.rQ] []
theorem aqk:aY abY:=bw aO _ (af sL (af oq (af Dj (af aqj (af Oe aB)))))
theorem aql:aA (abX (M.yu)):=bm (cx:=abY) true aqk Tryz.func173 hq ⟨⟨[.el U.Item],[.el U.parser]⟩,fun x=>(x.1.1,x.2.1)⟩ (fun x=>by kernel_rfl)
def Og(m:M.av->Option (M.aI×M.av)):aK K:={f:=144,sh:=uU,R:=M.aI×M.av,run:=fun x=>m x.2.1,dflt:=default,out:=fun r=>(Sh.enc D (.el U.Path) r.1,aQ.encs D [.el U.parser] (r.2,()))}
def abZ:Cx K:=bD [(111,.aX),(113,.aX),(112,.aX)] [sK M.gJ,m9 M.eI,Of M.tN] []
theorem aqm:aY abZ:=bw aO _ (af uV (af oq (af abP aB)))
theorem ab1:aA (Og (M.nI)):=bm (cx:=abZ) true aqm Tryz.func144 hq ⟨⟨[.el U.Path],[.el U.parser]⟩,fun x=>(x.1.1,x.2.1)⟩ (fun x=>by kernel_rfl)
def ab2(m:Int->(List UInt8)->Int->(List UInt8)->Bool->(List UInt8)->(List UInt8)->(List UInt8)->(List M.aj)->Int->Bool->(List (List UInt8))->(List M.aa)->(List M.aV)->(List M.aW)->Option (Int×(List UInt8)×Int×(List UInt8)×Bool×(List UInt8)×(List UInt8)×(List UInt8)×(List M.aj)×Int×Bool×(List (List UInt8))×(List M.aa)×(List M.aV)×(List M.aW))):aK K:={f:=177,sh:=ZO,R:=Int×(List UInt8)×Int×(List UInt8)×Bool×(List UInt8)×(List UInt8)×(List UInt8)×(List M.aj)×Int×Bool×(List (List UInt8))×(List M.aa)×(List M.aV)×(List M.aW),run:=fun x=>m x.2.2.1.1 x.2.2.1.2.1 x.2.2.1.2.2.1 x.2.2.1.2.2.2.1 x.2.2.1.2.2.2.2.2.2.2.1 x.2.2.1.2.2.2.2.2.2.2.2.1 x.2.2.1.2.2.2.2.2.2.2.2.2.1 x.2.2.1.2.2.2.2.2.2.2.2.2.2.1 x.2.2.2.1.1 x.2.2.2.1.2.1 x.2.2.2.1.2.2.1 x.2.2.2.2.1 x.2.2.2.2.2.1 x.2.2.2.2.2.2.1 x.2.2.2.2.2.2.2.1,dflt:=default,out:=fun r=>(Sh.enc D (.bA []) (),aQ.encs D [.box [.ptr 2 0],.box [iq0,.str,iq0,.str,.own 7,.own 8,.own 9,.bool,.str,.str,.str,.own 10],.box [.ax U.Token,iq0,.bool],.dead,.dead,.dead,.dead,.arr U.str,.arr U.Term,.arr U.dV,.arr U.eA] (((),()),((r.1,(r.2.1,(r.2.2.1,(r.2.2.2.1,((),((),((),(r.2.2.2.2.1,(r.2.2.2.2.2.1,(r.2.2.2.2.2.2.1,(r.2.2.2.2.2.2.2.1,((),())))))))))))),((r.2.2.2.2.2.2.2.2.1,(r.2.2.2.2.2.2.2.2.2.1,(r.2.2.2.2.2.2.2.2.2.2.1,()))),((),((),((),((),(r.2.2.2.2.2.2.2.2.2.2.2.1,(r.2.2.2.2.2.2.2.2.2.2.2.2.1,(r.2.2.2.2.2.2.2.2.2.2.2.2.2.1,(r.2.2.2.2.2.2.2.2.2.2.2.2.2.2,()))))))))))))}
def ab3:Cx K:={jD with mode:=iF .plain [(174,.aX),(113,.aX)],mv:=true,call:=callOf D [Ik M.nD,m9 M.eI],loop:=gG []}
theorem aqn:aY ab3:=bw aO _ (af Oc (af oq aB))
theorem aqo:aA (ab2 (M.Bi)):=bm (cx:=ab3) true aqn Tryz.func177 hq ⟨ZP,fun x=>(x.2.2.1.1,x.2.2.1.2.1,x.2.2.1.2.2.1,x.2.2.1.2.2.2.1,x.2.2.1.2.2.2.2.2.2.2.1,x.2.2.1.2.2.2.2.2.2.2.2.1,x.2.2.1.2.2.2.2.2.2.2.2.2.1,x.2.2.1.2.2.2.2.2.2.2.2.2.2.1,x.2.2.2.1.1,x.2.2.2.1.2.1,x.2.2.2.1.2.2.1,x.2.2.2.2.2.2.2.2.1,x.2.2.2.2.2.2.2.2.2.1,x.2.2.2.2.2.2.2.2.2.2.1,x.2.2.2.2.2.2.2.2.2.2.2.1)⟩ (fun x=>by kernel_rfl)
def ab4:bM K:=bS D false 30 7 [0,1,2,6] [] ZS (fun x=>M.tV x.1.2.1 ae x.1.2.2.2.1 x.2.1 x.2.2.2.1.1 x.2.2.2.1.2.1 x.2.2.2.1.2.2.1 x.2.2.2.1.2.2.2.1 x.2.2.2.1.2.2.2.2.2.2.2.1 x.2.2.2.1.2.2.2.2.2.2.2.2.1 x.2.2.2.1.2.2.2.2.2.2.2.2.2.1 x.2.2.2.1.2.2.2.2.2.2.2.2.2.2.1 x.2.2.2.2.2.2.2.2.1 x.2.2.2.2.2.2.2.2.2.1 x.2.2.2.2.2.2.2.2.2.2.1 x.2.2.2.2.2.2.2.2.2.2.2.1) abS
def ab5(m:Int->M.av->Int->(List UInt8)->Int->(List UInt8)->Bool->(List UInt8)->(List UInt8)->(List UInt8)->(List (List UInt8))->(List M.aa)->(List M.aV)->(List M.aW)->Option (M.av×Int×(List UInt8)×Int×(List UInt8)×Bool×(List UInt8)×(List UInt8)×(List UInt8)×(List (List UInt8))×(List M.aa)×(List M.aV)×(List M.aW))):aK K:={f:=176,sh:=⟨[.ptr 0 0,iq0,.fn 177 [.ptr 1 0,.ptr 2 0]],[.el U.parser,.box [.ptr 0 0],.box [iq0,.str,iq0,.str,.own 3,.own 4,.own 5,.bool,.str,.str,.str,.own 6],.arr U.str,.arr U.Term,.arr U.dV,.arr U.eA]⟩,R:=M.av×Int×(List UInt8)×Int×(List UInt8)×Bool×(List UInt8)×(List UInt8)×(List UInt8)×(List (List UInt8))×(List M.aa)×(List M.aV)×(List M.aW),run:=fun x=>m x.1.2.1 x.2.1 x.2.2.2.1.1 x.2.2.2.1.2.1 x.2.2.2.1.2.2.1 x.2.2.2.1.2.2.2.1 x.2.2.2.1.2.2.2.2.2.2.2.1 x.2.2.2.1.2.2.2.2.2.2.2.2.1 x.2.2.2.1.2.2.2.2.2.2.2.2.2.1 x.2.2.2.1.2.2.2.2.2.2.2.2.2.2.1 x.2.2.2.2.1 x.2.2.2.2.2.1 x.2.2.2.2.2.2.1 x.2.2.2.2.2.2.2.1,dflt:=default,out:=fun r=>(Sh.enc D (.bA []) (),aQ.encs D [.el U.parser,.box [.ptr 0 0],.box [iq0,.str,iq0,.str,.own 7,.own 8,.own 9,.bool,.str,.str,.str,.own 10],.dead,.dead,.dead,.dead,.arr U.str,.arr U.Term,.arr U.dV,.arr U.eA] (r.1,(((),()),((r.2.1,(r.2.2.1,(r.2.2.2.1,(r.2.2.2.2.1,((),((),((),(r.2.2.2.2.2.1,(r.2.2.2.2.2.2.1,(r.2.2.2.2.2.2.2.1,(r.2.2.2.2.2.2.2.2.1,((),())))))))))))),((),((),((),((),(r.2.2.2.2.2.2.2.2.2.1,(r.2.2.2.2.2.2.2.2.2.2.1,(r.2.2.2.2.2.2.2.2.2.2.2.1,(r.2.2.2.2.2.2.2.2.2.2.2.2,()))))))))))))}
def Ip:Cx K:={jD with mode:=iF .plain [(113,.aX),(177,.aX)],mv:=true,call:=callOf D [ab2 M.Bi,m9 M.eI],loop:=gG [(1,ab4)]}
theorem ab6:aY Ip:=bw aO _ (af aqo (af oq aB))
theorem aqp:bP Ip (bB (bK Tryz.f176) 0) ab4:=lk (cx:=Ip) (sh:=ZS) (run:=fun n x=>M.tV x.1.2.1 n x.1.2.2.2.1 x.2.1 x.2.2.2.1.1 x.2.2.2.1.2.1 x.2.2.2.1.2.2.1 x.2.2.2.1.2.2.2.1 x.2.2.2.1.2.2.2.2.2.2.2.1 x.2.2.2.1.2.2.2.2.2.2.2.2.1 x.2.2.2.1.2.2.2.2.2.2.2.2.2.1 x.2.2.2.1.2.2.2.2.2.2.2.2.2.2.1 x.2.2.2.2.2.2.2.2.1 x.2.2.2.2.2.2.2.2.2.1 x.2.2.2.2.2.2.2.2.2.2.1 x.2.2.2.2.2.2.2.2.2.2.2.1) (bR:=abT) ab6 (fun m x=>by kernel_rfl) (af ⟨dK,fun _ _ _=>rfl⟩ (af ⟨bW,fun _ _ _=>rfl⟩ aB))
theorem aqr:aA (ab5 (M.vU)):=bm (cx:=Ip) true ab6 Tryz.func176 (hl1 aqp) ⟨ZR,fun x=>(x.2.1,x.2.2.2.1.1,x.2.2.2.1.2.1,x.2.2.2.1.2.2.1,x.2.2.2.1.2.2.2.1,x.2.2.2.1.2.2.2.2.2.2.2.1,x.2.2.2.1.2.2.2.2.2.2.2.2.1,x.2.2.2.1.2.2.2.2.2.2.2.2.2.1,x.2.2.2.1.2.2.2.2.2.2.2.2.2.2.1,x.2.2.2.2.2.2.2.2.1,x.2.2.2.2.2.2.2.2.2.1,x.2.2.2.2.2.2.2.2.2.2.1,x.2.2.2.2.2.2.2.2.2.2.2.1)⟩ (fun x=>by kernel_rfl)
def ab7(m:M.av->Option (M.ai×M.av)):aK K:={f:=143,sh:=uU,R:=M.ai×M.av,run:=fun x=>m x.2.1,dflt:=default,out:=fun r=>(Sh.enc D (.el U.Item) r.1,aQ.encs D [.el U.parser] (r.2,()))}
def ab8:Cx K:=bD [(111,.aX),(142,.aX),(173,.aX),(174,.aX),(110,.aX),(175,.aX),(144,.aX),(176,.aX)] [sK M.gJ,zJ M.mR,abX M.yu,Ik M.nD,qP M.dk,ib M.rQ,Og M.nI,ab5 M.vU] []
theorem aqs:aY ab8:=bw aO _ (af uV (af Dj (af aql (af Oc (af sL (af Oe (af ab1 (af aqr aB))))))))
theorem aqt:aA (ab7 (M.Bo)):=bm (cx:=ab8) true aqs Tryz.func143 hq ⟨⟨[.el U.Item],[.el U.parser]⟩,fun x=>(x.1.1,x.2.1)⟩ (fun x=>by kernel_rfl)
def aqu(y:M.av×(List UInt8)×(List UInt8)×(List M.ai)×(List M.ai)){R:Type}(k:KT R):R:=match y with|a0=>kk k (Ex.exit 0) HS (((),((),((),()))),(a0.1,((a0.2.1,((),())),((a0.2.2.1,((),())),((),((),(a0.2.2.2.1,(a0.2.2.2.2,()))))))))
def aqv:List (cu K (M.av×(List UInt8)×(List UInt8)×(List M.ai)×(List M.ai))):=[⟨(Ex.exit 0),HS,fun x=>(x.2.1,x.2.2.1.1,x.2.2.2.1.1,x.2.2.2.2.2.2.1,x.2.2.2.2.2.2.2.1)⟩]
def ab9:bM K:=bS D false 37 5 [0,2,3] [0,2,3] HS (fun x=>M.yv x.2.2.1.1 x.2.2.2.1.1 x.2.2.2.2.2.2.1 ae x.2.1 x.2.2.2.2.2.2.2.1) aqu
def aca(m:M.av->Option (M.aF×M.av)):aK K:={f:=114,sh:=uU,R:=M.aF×M.av,run:=fun x=>m x.2.1,dflt:=default,out:=fun r=>(Sh.enc D (.el U.dn) r.1,aQ.encs D [.el U.parser] (r.2,()))}
def Iq:Cx K:=bD [(111,.aX),(110,.aX),(142,.aX),(143,.aX)] [sK M.gJ,qP M.dk,zJ M.mR,ab7 M.Bo] [(3,ab9)]
theorem acb:aY Iq:=bw aO _ (af uV (af sL (af Dj (af aqt aB))))
theorem aqw:bP Iq (bB (bK Tryz.f114) 0) ab9:=lk (cx:=Iq) (sh:=HS) (run:=fun n x=>M.yv x.2.2.1.1 x.2.2.2.1.1 x.2.2.2.2.2.2.1 n x.2.1 x.2.2.2.2.2.2.2.1) (bR:=aqv) acb (fun m x=>by kernel_rfl) (af ⟨bW,fun _ _ _=>rfl⟩ aB)
theorem aqx:aA (aca (M.yw)):=bm (cx:=Iq) true acb Tryz.func114 (hl1 aqw) ⟨⟨[.el U.dn],[.el U.parser]⟩,fun x=>(x.1.1,x.2.1)⟩ (fun x=>by kernel_rfl)
def aqy(y:M.av×(List UInt8)×(List UInt8)×(List M.aN)×(List M.aN)){R:Type}(k:KT R):R:=match y with|a0=>kk k (Ex.exit 0) HU (((),((),((),()))),(a0.1,((a0.2.1,((),())),((a0.2.2.1,((),())),((),((),(a0.2.2.2.1,(a0.2.2.2.2,()))))))))
def aqz:List (cu K (M.av×(List UInt8)×(List UInt8)×(List M.aN)×(List M.aN))):=[⟨(Ex.exit 0),HU,fun x=>(x.2.1,x.2.2.1.1,x.2.2.2.1.1,x.2.2.2.2.2.2.1,x.2.2.2.2.2.2.2.1)⟩]
def acd:bM K:=bS D false 56 5 [0,2,3] [0,2,3] HU (fun x=>M.rU x.2.2.1.1 x.2.2.2.1.1 x.2.2.2.2.2.2.1 ae x.2.1 x.2.2.2.2.2.2.2.1) aqy
def ace(m:M.av->Option (M.aS×M.av)):aK K:={f:=115,sh:=uU,R:=M.aS×M.av,run:=fun x=>m x.2.1,dflt:=default,out:=fun r=>(Sh.enc D (.el U.dR) r.1,aQ.encs D [.el U.parser] (r.2,()))}
def Ir:Cx K:=bD [(111,.aX),(110,.aX),(142,.aX),(113,.aX),(144,.aX)] [sK M.gJ,qP M.dk,zJ M.mR,m9 M.eI,Og M.nI] [(3,acd)]
theorem acf:aY Ir:=bw aO _ (af uV (af sL (af Dj (af oq (af ab1 aB)))))
theorem aqA:bP Ir (bB (bK Tryz.f115) 0) acd:=lk (cx:=Ir) (sh:=HU) (run:=fun n x=>M.rU x.2.2.1.1 x.2.2.2.1.1 x.2.2.2.2.2.2.1 n x.2.1 x.2.2.2.2.2.2.2.1) (bR:=aqz) acf (fun m x=>by kernel_rfl) (af ⟨bW,fun _ _ _=>rfl⟩ aB)
theorem aqB:aA (ace (M.vV)):=bm (cx:=Ir) true acf Tryz.func115 (hl1 aqA) ⟨⟨[.el U.dR],[.el U.parser]⟩,fun x=>(x.1.1,x.2.1)⟩ (fun x=>by kernel_rfl)
def kx(m:Int->M.ay->Option (M.aa×M.ay)):aK K:={f:=131,sh:=⟨[.ptr 0 0,iq0],[.el U.dr]⟩,R:=M.aa×M.ay,run:=fun x=>m x.1.2.1 x.2.1,dflt:=default,out:=fun r=>(Sh.enc D (.el U.Term) r.1,aQ.encs D [.el U.dr] (r.2,()))}
def acg(m:Int->M.ay->Option ((List M.aa)×M.ay)):aK K:={f:=164,sh:=⟨[.ptr 0 0,iq0],[.el U.dr]⟩,R:=(List M.aa)×M.ay,run:=fun x=>m x.1.2.1 x.2.1,dflt:=default,out:=fun r=>(Sh.enc D (.ax U.Term) r.1,aQ.encs D [.el U.dr] (r.2,()))}
def ach(cg:Int->M.ay->Option (M.aa×M.ay)):Cx K:=bD [(64,.aX),(131,.aX),(61,.aX)] [m7 M.dN,kx cg,oi M.dH] []
theorem aqC(cg:Int->M.ay->Option (M.aa×M.ay))(jE:aA (kx cg)):aY (ach cg):=bw aO _ (af oj (af jE (af pA aB)))
theorem aqD(cg:Int->M.ay->Option (M.aa×M.ay))(jE:aA (kx cg)):aA (acg (M.Bg cg)):=gZ (cx:=ach cg) (fz:=true) aO (aqC cg jE) eP ⟨Tryz.func164,by kernel_rfl⟩ hq ⟨⟨[.ax U.Term],[.el U.dr]⟩,fun x=>(x.1.1,x.2.1)⟩ (fun x=>rfl) (fun x=>by kernel_rfl)
def aci(m:(List UInt8)->Option Bool):aK K:=cB 162 zs1 (fun x=>m x.1.1)
def acj:Cx K:=bD [(163,.plain)] [N9 M.tL] []
theorem aqE:aY acj:=bw aO _ (af abb aB)
theorem aqF:aA (aci (M.A7)):=bm (cx:=acj) true aqE Tryz.func162 hq ⟨zs0,fun x=>x.1.1⟩ (fun x=>by kernel_rfl)
def Is(m:M.ay->Option ((List UInt8)×M.ay)):aK K:={f:=130,sh:=oh,R:=(List UInt8)×M.ay,run:=fun x=>m x.2.1,dflt:=default,out:=fun r=>(Sh.enc D (.str) r.1,aQ.encs D [.el U.dr] (r.2,()))}
def ack:Cx K:=bD [(45,.aX),(162,.plain),(62,.aX)] [wU M.lE,aci M.A7,qJ M.fX] []
theorem aqG:aY ack:=bw aO _ (af zo (af aqF (af sE aB)))
theorem Oh:aA (Is (M.nE)):=bm (cx:=ack) true aqG Tryz.func130 hq ⟨NP,fun x=>(x.1.1,x.2.1)⟩ (fun x=>by kernel_rfl)
def Dl(m:Int->Int->M.ay->Option (M.ay)):aK K:={f:=165,sh:=⟨[.ptr 0 0,iq0,iq0],[.el U.dr]⟩,R:=M.ay,run:=fun x=>m x.1.2.1 x.1.2.2.1 x.2.1,dflt:=default,out:=fun r=>(Sh.enc D (.bA []) (),aQ.encs D [.el U.dr] (r,()))}
def acm:Cx K:=bD [(61,.aX)] [oi M.dH] []
theorem aqH:aY acm:=bw aO _ (af pA aB)
theorem It:aA (Dl (M.kh)):=bm (cx:=acm) true aqH Tryz.func165 hq ⟨NN,fun x=>x.2.1⟩ (fun x=>by kernel_rfl)
def aqI(y:(List M.aj)×Int×Bool×Int×(List UInt8)×(List (List UInt8))×(List M.aa)){R:Type}(k:KT R):R:=match y with|a0=>kk k (Ex.exit 0) ZT ((),((a0.1,(a0.2.1,(a0.2.2.1,()))),((a0.2.2.2.1,(a0.2.2.2.2.1,((),((),())))),((),((),(a0.2.2.2.2.2.1,(a0.2.2.2.2.2.2,())))))))
def aqJ:List (cu K ((List M.aj)×Int×Bool×Int×(List UInt8)×(List (List UInt8))×(List M.aa))):=[⟨(Ex.exit 0),ZT,fun x=>(x.2.1.1,x.2.1.2.1,x.2.1.2.2.1,x.2.2.1.1,x.2.2.1.2.1,x.2.2.2.2.2.1,x.2.2.2.2.2.2.1)⟩]
def acn(cg:Int->M.ay->Option (M.aa×M.ay)):bM K:=bS D false 98 4 [0,1,2] [] ZU (fun x=>M.ki cg x.1.2.2.1 x.2.2.1.1 x.2.2.1.2.1 ae x.2.1 x.2.2.2.2.2.1 x.2.2.2.2.2.2.1) aqI
def aco(m:Int->M.ay->Int->(List UInt8)->(List (List UInt8))->(List M.aa)->Option (M.ay×Int×(List UInt8)×(List (List UInt8))×(List M.aa))):aK K:={f:=166,sh:=⟨[.ptr 0 0,.ptr 1 0,iq0],[.el U.dr,.box [iq0,.str,.own 2,.own 3],.arr U.str,.arr U.Term]⟩,R:=M.ay×Int×(List UInt8)×(List (List UInt8))×(List M.aa),run:=fun x=>m x.1.2.2.1 x.2.1 x.2.2.1.1 x.2.2.1.2.1 x.2.2.2.1 x.2.2.2.2.1,dflt:=default,out:=fun r=>(Sh.enc D (.bA []) (),aQ.encs D [.el U.dr,.box [iq0,.str,.own 4,.own 5],.dead,.dead,.arr U.str,.arr U.Term] (r.1,((r.2.1,(r.2.2.1,((),((),())))),((),((),(r.2.2.2.1,(r.2.2.2.2,())))))))}
def Iu(cg:Int->M.ay->Option (M.aa×M.ay)):Cx K:={jD with mode:=iF .plain [(61,.aX),(62,.aX),(131,.aX),(64,.aX),(165,.aX)],mv:=true,call:=callOf D [oi M.dH,qJ M.fX,kx cg,m7 M.dN,Dl M.kh],loop:=gG [(1,acn cg)]}
theorem acp(cg:Int->M.ay->Option (M.aa×M.ay))(jE:aA (kx cg)):aY (Iu cg):=bw aO _ (af pA (af sE (af jE (af oj (af It aB)))))
theorem aqK(cg:Int->M.ay->Option (M.aa×M.ay))(jE:aA (kx cg)):bP (Iu cg) (bB (bK Tryz.f166) 0) (acn cg):=lk (cx:=Iu cg) (sh:=ZU) (run:=fun n x=>M.ki cg x.1.2.2.1 x.2.2.1.1 x.2.2.1.2.1 n x.2.1 x.2.2.2.2.2.1 x.2.2.2.2.2.2.1) (bR:=aqJ) (acp cg jE) (fun m x=>by kernel_rfl) (af ⟨bW,fun _ _ _=>rfl⟩ aB)
theorem aqL(cg:Int->M.ay->Option (M.aa×M.ay))(jE:aA (kx cg)):aA (aco (M.nF cg)):=gZ (cx:=Iu cg) (fz:=true) aO (acp cg jE) eP ⟨Tryz.func166,by kernel_rfl⟩ (hl1 (aqK cg jE)) ⟨⟨[.bA []],[.el U.dr,.box [iq0,.str,.own 4,.own 5],.dead,.dead,.arr U.str,.arr U.Term]⟩,fun x=>(x.2.1,x.2.2.1.1,x.2.2.1.2.1,x.2.2.2.2.2.1,x.2.2.2.2.2.2.1)⟩ (fun x=>rfl) (fun x=>by kernel_rfl)
def aqM(y:(List M.aj)×Int×Bool×Int×(List UInt8)×Int×(List UInt8)×(List (List UInt8))×(List M.aa)×(List (List UInt8))×(List M.aa)){R:Type}(k:KT R):R:=match y with|a0=>kk k (Ex.exit 1) ZV (((),((),())),((a0.1,(a0.2.1,(a0.2.2.1,()))),((a0.2.2.2.1,(a0.2.2.2.2.1,((),((),())))),((a0.2.2.2.2.2.1,(a0.2.2.2.2.2.2.1,((),((),())))),((),((),((),((),(a0.2.2.2.2.2.2.2.1,(a0.2.2.2.2.2.2.2.2.1,(a0.2.2.2.2.2.2.2.2.2.1,(a0.2.2.2.2.2.2.2.2.2.2,()))))))))))))
def aqN:List (cu K ((List M.aj)×Int×Bool×Int×(List UInt8)×Int×(List UInt8)×(List (List UInt8))×(List M.aa)×(List (List UInt8))×(List M.aa))):=[⟨(Ex.exit 1),ZV,fun x=>(x.2.1.1,x.2.1.2.1,x.2.1.2.2.1,x.2.2.1.1,x.2.2.1.2.1,x.2.2.2.1.1,x.2.2.2.1.2.1,x.2.2.2.2.2.2.2.2.1,x.2.2.2.2.2.2.2.2.2.1,x.2.2.2.2.2.2.2.2.2.2.1,x.2.2.2.2.2.2.2.2.2.2.2.1)⟩]
def acr(cg:Int->M.ay->Option (M.aa×M.ay)):bM K:=bS D false 101 7 [0,1,4,6] [4,6] ZW (fun x=>M.rP cg x.1.2.1 x.2.2.1.1 x.2.2.1.2.1 x.2.2.2.1.1 x.2.2.2.1.2.1 x.2.2.2.2.2.2.2.2.1 x.2.2.2.2.2.2.2.2.2.1 x.2.2.2.2.2.2.2.2.2.2.1 ae x.2.1 x.2.2.2.2.2.2.2.2.2.2.2.1) aqM
def Iw(cg:Int->M.ay->Option (M.aa×M.ay)):Cx K:=bD [(62,.aX),(163,.plain),(61,.aX),(131,.aX),(164,.aX),(64,.aX),(165,.aX),(130,.aX),(166,.aX)] [qJ M.fX,N9 M.tL,oi M.dH,kx cg,acg (M.Bg cg),Is M.nE,aco (M.nF cg),m7 M.dN,Dl M.kh] [(20,acr cg)]
theorem acs(cg:Int->M.ay->Option (M.aa×M.ay))(jE:aA (kx cg)):aY (Iw cg):=bw aO _ (af sE (af abb (af pA (af jE (af (aqD cg jE) (af Oh (af (aqL cg jE) (af oj (af It aB)))))))))
theorem aqO(cg:Int->M.ay->Option (M.aa×M.ay))(jE:aA (kx cg)):bP (Iw cg) (bB (bK Tryz.f131) 0) (acr cg):=lk (cx:=Iw cg) (sh:=ZW) (run:=fun n x=>M.rP cg x.1.2.1 x.2.2.1.1 x.2.2.1.2.1 x.2.2.2.1.1 x.2.2.2.1.2.1 x.2.2.2.2.2.2.2.2.1 x.2.2.2.2.2.2.2.2.2.1 x.2.2.2.2.2.2.2.2.2.2.1 n x.2.1 x.2.2.2.2.2.2.2.2.2.2.2.1) (bR:=aqN) (acs cg jE) (fun m x=>by kernel_rfl) (af ⟨bW,fun _ _ _=>rfl⟩ aB)
theorem aqP(cg:Int->M.ay->Option (M.aa×M.ay))(jE:aA (kx cg)):aA (kx (M.vQ cg)):=gZ (cx:=Iw cg) (fz:=true) aO (acs cg jE) eP ⟨Tryz.func131,by kernel_rfl⟩ (hl1 (aqO cg jE)) ⟨⟨[.el U.Term],[.el U.dr]⟩,fun x=>(x.1.1,x.2.1)⟩ (fun x=>rfl) (fun x=>by kernel_rfl)
theorem acu:∀n,aA (kx (M.tQ n))|0=>pY fun _=>rfl|n+1=>aqP (M.tQ n) (acu n)
theorem Oi:aA (kx (M.tR)):=acu ae
def Vi(y:(List M.aj)×Int×Bool×(List UInt8)×(List UInt8)×(List UInt8)×(List UInt8)×(List M.aF)×(List M.aS)×(List M.aF)×(List M.aS)){R:Type}(k:KT R):R:=match y with|a0=>kk k (Ex.exit 0) Zr (((),((),())),((a0.1,(a0.2.1,(a0.2.2.1,()))),((a0.2.2.2.1,(a0.2.2.2.2.1,((),((),())))),((a0.2.2.2.2.2.1,(a0.2.2.2.2.2.2.1,((),((),())))),((),((),((),((),(a0.2.2.2.2.2.2.2.1,(a0.2.2.2.2.2.2.2.2.1,(a0.2.2.2.2.2.2.2.2.2.1,(a0.2.2.2.2.2.2.2.2.2.2,()))))))))))))
def Vn:List (cu K ((List M.aj)×Int×Bool×(List UInt8)×(List UInt8)×(List UInt8)×(List UInt8)×(List M.aF)×(List M.aS)×(List M.aF)×(List M.aS))):=[⟨(Ex.exit 0),Zr,fun x=>(x.2.1.1,x.2.1.2.1,x.2.1.2.2.1,x.2.2.1.1,x.2.2.1.2.1,x.2.2.2.1.1,x.2.2.2.1.2.1,x.2.2.2.2.2.2.2.2.1,x.2.2.2.2.2.2.2.2.2.1,x.2.2.2.2.2.2.2.2.2.2.1,x.2.2.2.2.2.2.2.2.2.2.2.1)⟩]
def acv:bM K:=bS D false 72 7 [0,2,3] [2,3] ZX (fun x=>M.km x.2.2.1.1 x.2.2.1.2.1 x.2.2.2.1.1 x.2.2.2.1.2.1 x.2.2.2.2.2.2.2.2.1 x.2.2.2.2.2.2.2.2.2.1 ae x.2.1 x.2.2.2.2.2.2.2.2.2.2.1 x.2.2.2.2.2.2.2.2.2.2.2.1) Vi
def acw(m:M.av->Option ((List UInt8)×(List UInt8)×M.av×(List M.aF)×(List M.aS))):aK K:={f:=77,sh:=uU,R:=(List UInt8)×(List UInt8)×M.av×(List M.aF)×(List M.aS),run:=fun x=>m x.2.1,dflt:=default,out:=fun r=>(Sh.enc D (.agg [.str,.str,.own 1,.own 2]) (r.1,(r.2.1,((),((),())))),aQ.encs D [.el U.parser,.arr U.dn,.arr U.dR] (r.2.2.1,(r.2.2.2.1,(r.2.2.2.2,()))))}
def Ix:Cx K:={jD with mode:=iF .plain [(110,.aX),(111,.aX),(112,.aX),(113,.aX),(114,.aX),(115,.aX)],xk:=[[none,none,some U.dn,some U.dR]],call:=callOf D [qP M.dk,sK M.gJ,Of M.tN,m9 M.eI,aca M.yw,ace M.vV],loop:=gG [(7,acv)]}
theorem acx:aY Ix:=bw aO _ (af sL (af uV (af abP (af oq (af aqx (af aqB aB))))))
theorem aqQ:bP Ix (bB (bK Tryz.f77) 0) acv:=lk (cx:=Ix) (sh:=ZX) (run:=fun n x=>M.km x.2.2.1.1 x.2.2.1.2.1 x.2.2.2.1.1 x.2.2.2.1.2.1 x.2.2.2.2.2.2.2.2.1 x.2.2.2.2.2.2.2.2.2.1 n x.2.1 x.2.2.2.2.2.2.2.2.2.2.1 x.2.2.2.2.2.2.2.2.2.2.2.1) (bR:=Vn) acx (fun m x=>by kernel_rfl) (af ⟨bW,fun _ _ _=>rfl⟩ aB)
theorem aqR:aA (acw (M.Bv)):=bm (cx:=Ix) false acx Tryz.func77 (hl1 aqQ) ⟨⟨[.agg [.str,.str,.own 1,.own 2]],[.el U.parser,.arr U.dn,.arr U.dR]⟩,fun x=>(x.1.1.1,x.1.1.2.1,x.2.1,x.2.2.1,x.2.2.2.1)⟩ (fun x=>by kernel_rfl)
def acy(m:M.av->(List UInt8)->(List UInt8)->(List M.aF)->(List M.aS)->Option (M.av×(List UInt8)×(List UInt8)×(List M.aF)×(List M.aS))):aK K:={f:=76,sh:=⟨[.ptr 0 0,.ptr 1 0],[.el U.parser,.box [.str,.str,.own 2,.own 3],.arr U.dn,.arr U.dR]⟩,R:=M.av×(List UInt8)×(List UInt8)×(List M.aF)×(List M.aS),run:=fun x=>m x.2.1 x.2.2.1.1 x.2.2.1.2.1 x.2.2.2.1 x.2.2.2.2.1,dflt:=default,out:=fun r=>(Sh.enc D (.bA []) (),aQ.encs D [.el U.parser,.box [.str,.str,.own 4,.own 5],.dead,.dead,.arr U.dn,.arr U.dR] (r.1,((r.2.1,(r.2.2.1,((),((),())))),((),((),(r.2.2.2.1,(r.2.2.2.2,())))))))}
def acz:Cx K:={jD with mode:=iF .plain [(77,.aX)],mv:=true,call:=callOf D [acw M.Bv],loop:=gG []}
theorem aqS:aY acz:=bw aO _ (af aqR aB)
theorem aqT:aA (acy (M.By)):=bm (cx:=acz) true aqS Tryz.func76 hq ⟨⟨[.bA []],[.el U.parser,.box [.str,.str,.own 4,.own 5],.dead,.dead,.arr U.dn,.arr U.dR]⟩,fun x=>(x.2.1,x.2.2.1.1,x.2.2.1.2.1,x.2.2.2.2.2.1,x.2.2.2.2.2.2.1)⟩ (fun x=>by kernel_rfl)
def acA(m:(List UInt8)->(List UInt8)->(List UInt8)->(List M.aF)->(List M.aS)->Option (Int×Int×(List UInt8)×(List UInt8)×(List M.aF)×(List M.aS))):aK K:={f:=75,sh:=⟨[.str,.fn 76 [.ptr 0 0]],[.box [.str,.str,.own 1,.own 2],.arr U.dn,.arr U.dR]⟩,R:=Int×Int×(List UInt8)×(List UInt8)×(List M.aF)×(List M.aS),run:=fun x=>m x.1.1 x.2.1.1 x.2.1.2.1 x.2.2.1 x.2.2.2.1,dflt:=default,out:=fun r=>(Sh.enc D (.bA [iq0,iq0]) (r.1,(r.2.1,())),aQ.encs D [.box [.str,.str,.own 3,.own 4],.dead,.dead,.arr U.dn,.arr U.dR] ((r.2.2.1,(r.2.2.2.1,((),((),())))),((),((),(r.2.2.2.2.1,(r.2.2.2.2.2,()))))))}
def acB:Cx K:={jD with mode:=iF .plain [(109,.jI),(76,.aX)],mv:=true,call:=callOf D [aa3 M.AY,acy M.By],loop:=gG []}
theorem aqU:aY acB:=bw aO _ (af apx (af aqT aB))
theorem aqV:aA (acA (M.qi)):=bm (cx:=acB) true aqU Tryz.func75 hq ⟨⟨[.bA [iq0,iq0]],[.box [.str,.str,.own 3,.own 4],.dead,.dead,.arr U.dn,.arr U.dR]⟩,fun x=>(x.1.1.1,x.1.1.2.1,x.2.1.1,x.2.1.2.1,x.2.2.2.2.1,x.2.2.2.2.2.1)⟩ (fun x=>by kernel_rfl)
def acC(m:M.aW->Option ((List UInt8))):aK K:=cS 116 ⟨[.el U.eA],[]⟩ (fun x=>m x.1.1)
theorem aqW:aA (acC (M.Bz)):=bm (cx:=gU) true ia Tryz.func116 hq ⟨zs1,fun x=>x.1.1⟩ (fun x=>by kernel_rfl)
def aqX(y:(List M.aF)×Int×Int×(List M.ai)×Int×Int×M.ah×M.aF×(List (List UInt8))×(List (List UInt8))×(List (List UInt8))×(List (List UInt8))){R:Type}(k:KT R):R:=match y with|a0=>kk k (Ex.exit 5) HV (((),((),((),((),((),((),(a0.1,(a0.2.1,(a0.2.2.1,(a0.2.2.2.1,(a0.2.2.2.2.1,(a0.2.2.2.2.2.1,())))))))))))),(a0.2.2.2.2.2.2.1,((),((),(a0.2.2.2.2.2.2.2.1,((),((),(a0.2.2.2.2.2.2.2.2.1,(a0.2.2.2.2.2.2.2.2.2.1,(a0.2.2.2.2.2.2.2.2.2.2.1,(a0.2.2.2.2.2.2.2.2.2.2.2,())))))))))))
def aqY:List (cu K ((List M.aF)×Int×Int×(List M.ai)×Int×Int×M.ah×M.aF×(List (List UInt8))×(List (List UInt8))×(List (List UInt8))×(List (List UInt8)))):=[⟨(Ex.exit 5),HV,fun x=>(x.1.2.2.2.2.2.2.1,x.1.2.2.2.2.2.2.2.1,x.1.2.2.2.2.2.2.2.2.1,x.1.2.2.2.2.2.2.2.2.2.1,x.1.2.2.2.2.2.2.2.2.2.2.1,x.1.2.2.2.2.2.2.2.2.2.2.2.1,x.2.1,x.2.2.2.2.1,x.2.2.2.2.2.2.2.1,x.2.2.2.2.2.2.2.2.1,x.2.2.2.2.2.2.2.2.2.1,x.2.2.2.2.2.2.2.2.2.2.1)⟩]
def acD:bM K:=bS D false 96 6 [1,3,4,6,7,8,18,19,20,27,28,29,50,51,52] [1,3,4,6,7,8,18,19,20,27,28,29] ZY (fun x=>M.yA x.1.2.2.2.2.2.2.1 x.1.2.2.2.2.2.2.2.1 x.1.2.2.2.2.2.2.2.2.1 x.1.2.2.2.2.2.2.2.2.2.1 x.1.2.2.2.2.2.2.2.2.2.2.1 x.1.2.2.2.2.2.2.2.2.2.2.2.1 x.1.2.2.2.2.2.2.2.2.2.2.2.2.1 x.1.2.2.2.2.2.2.2.2.2.2.2.2.2.1 x.2.1 x.2.2.2.2.1 x.2.2.2.2.2.2.2.1 x.2.2.2.2.2.2.2.2.1 x.2.2.2.2.2.2.2.2.2.1 ae x.1.2.2.2.2.2.2.2.2.2.2.2.2.2.2.1 x.2.2.2.2.2.2.2.2.2.2.1) aqX
def aqZ(y:(List M.aF)×Int×Int×M.ah×M.aF×(List (List UInt8))×(List (List UInt8))×(List (List UInt8))×(List (List UInt8))){R:Type}(k:KT R):R:=match y with|a0=>kk k (Ex.exit 2) ZZ (((),((),((),((),((),((),(a0.1,(a0.2.1,(a0.2.2.1,()))))))))),(a0.2.2.2.1,((),((),(a0.2.2.2.2.1,((),((),(a0.2.2.2.2.2.1,(a0.2.2.2.2.2.2.1,(a0.2.2.2.2.2.2.2.1,(a0.2.2.2.2.2.2.2.2,())))))))))))
def aq0:List (cu K ((List M.aF)×Int×Int×M.ah×M.aF×(List (List UInt8))×(List (List UInt8))×(List (List UInt8))×(List (List UInt8)))):=[⟨(Ex.exit 2),ZZ,fun x=>(x.1.2.2.2.2.2.2.1,x.1.2.2.2.2.2.2.2.1,x.1.2.2.2.2.2.2.2.2.1,x.2.1,x.2.2.2.2.1,x.2.2.2.2.2.2.2.1,x.2.2.2.2.2.2.2.2.1,x.2.2.2.2.2.2.2.2.2.1,x.2.2.2.2.2.2.2.2.2.2.1)⟩]
def acE:bM K:=bS D false 96 6 [1,3,4,6,7,8,18,19,20,27,28,29] [1,3,4,6,7,8,18,19,20] HV (fun x=>M.ub ae x.1.2.2.2.2.2.2.1 x.1.2.2.2.2.2.2.2.1 x.1.2.2.2.2.2.2.2.2.1 x.1.2.2.2.2.2.2.2.2.2.1 x.1.2.2.2.2.2.2.2.2.2.2.1 x.1.2.2.2.2.2.2.2.2.2.2.2.1 x.2.1 x.2.2.2.2.1 x.2.2.2.2.2.2.2.1 x.2.2.2.2.2.2.2.2.1 x.2.2.2.2.2.2.2.2.2.1 x.2.2.2.2.2.2.2.2.2.2.1) aqZ
def VA(y:Bool⊕(M.ah×(List (List UInt8))×(List (List UInt8)))){R:Type}(k:KT R):R:=match y with|.inl a0=>kk k Ex.ret Zs (((),((),((),(a0,())))),((),((),((),((),((),()))))))|.inr a1=>kk k (Ex.exit 0) Zt (((),((),((),((),())))),(a1.1,((),((),(a1.2.1,(a1.2.2,()))))))
def VD:List (cu K ((Bool)⊕(M.ah×(List (List UInt8))×(List (List UInt8))))):=[⟨Ex.ret,Zs,fun x=>.inl x.1.2.2.2.1⟩,⟨(Ex.exit 0),Zt,fun x=>.inr ((x.2.1,x.2.2.2.2.1,x.2.2.2.2.2.1))⟩]
def acF:bM K:=bS D false 96 3 [1,3,4,18,19,20] [1,3,4,2] Z0 (fun x=>M.yD ae x.1.2.2.2.1 x.1.2.2.2.2.1 x.1.2.2.2.2.2.1 x.2.1 x.2.2.2.2.1 x.2.2.2.2.2.1) VA
def aq1(y:(List (List UInt8))×(List (List UInt8))){R:Type}(k:KT R):R:=match y with|a0=>kk k (Ex.exit 7) Z1 (((),((),())),((),((),(a0.1,(a0.2,())))))
def aq2:List (cu K ((List (List UInt8))×(List (List UInt8)))):=[⟨(Ex.exit 7),Z1,fun x=>(x.2.2.2.1,x.2.2.2.2.1)⟩]
def acG:bM K:=bS D false 96 2 [3,4,78,79,80] [3,4] Z2 (fun x=>M.yE x.1.2.2.1 x.1.2.2.2.1 x.2.2.2.1 ae x.1.2.2.2.2.1 x.2.2.2.2.1) aq1
def acH(m:M.ah->Option Bool):aK K:=cB 78 uN (fun x=>m x.1.1)
def qQ:Cx K:=bD [(116,.plain),(117,.plain)] [acC M.Bz,Lh M.oR] [(15,acD),(7,acE),(3,acF),(25,acG)]
theorem Dm:aY qQ:=bw aO _ (af aqW (af afW aB))
theorem aq3:bP qQ (bB (bB (bB (bK Tryz.f78) 0) 0) 0) acD:=lk (cx:=qQ) (sh:=ZY) (run:=fun n x=>M.yA x.1.2.2.2.2.2.2.1 x.1.2.2.2.2.2.2.2.1 x.1.2.2.2.2.2.2.2.2.1 x.1.2.2.2.2.2.2.2.2.2.1 x.1.2.2.2.2.2.2.2.2.2.2.1 x.1.2.2.2.2.2.2.2.2.2.2.2.1 x.1.2.2.2.2.2.2.2.2.2.2.2.2.1 x.1.2.2.2.2.2.2.2.2.2.2.2.2.2.1 x.2.1 x.2.2.2.2.1 x.2.2.2.2.2.2.2.1 x.2.2.2.2.2.2.2.2.1 x.2.2.2.2.2.2.2.2.2.1 n x.1.2.2.2.2.2.2.2.2.2.2.2.2.2.2.1 x.2.2.2.2.2.2.2.2.2.2.1) (bR:=aqY) Dm (fun m x=>by kernel_rfl) (af ⟨bW,fun _ _ _=>rfl⟩ aB)
theorem aq4:bP qQ (bB (bB (bK Tryz.f78) 0) 0) acE:=lk (cx:=qQ) (sh:=HV) (run:=fun n x=>M.ub n x.1.2.2.2.2.2.2.1 x.1.2.2.2.2.2.2.2.1 x.1.2.2.2.2.2.2.2.2.1 x.1.2.2.2.2.2.2.2.2.2.1 x.1.2.2.2.2.2.2.2.2.2.2.1 x.1.2.2.2.2.2.2.2.2.2.2.2.1 x.2.1 x.2.2.2.2.1 x.2.2.2.2.2.2.2.1 x.2.2.2.2.2.2.2.2.1 x.2.2.2.2.2.2.2.2.2.1 x.2.2.2.2.2.2.2.2.2.2.1) (bR:=aq0) Dm (fun m x=>by kernel_rfl) (af ⟨bW,fun _ _ _=>rfl⟩ aB) (hl:=(iE 1 (by kernel_rfl) (iU (.mk (by kernel_rfl) aq3))))
theorem aq5:bP qQ (bB (bK Tryz.f78) 0) acF:=lk (cx:=qQ) (sh:=Z0) (run:=fun n x=>M.yD n x.1.2.2.2.1 x.1.2.2.2.2.1 x.1.2.2.2.2.2.1 x.2.1 x.2.2.2.2.1 x.2.2.2.2.2.1) (bR:=VD) Dm (fun m x=>by kernel_rfl) (af ⟨dK,fun _ _ _=>rfl⟩ (af ⟨bW,fun _ _ _=>rfl⟩ aB)) (hl:=(iE 1 (by kernel_rfl) (iU (.mk (by kernel_rfl) aq4))))
theorem aq6:bP qQ (bB (bK Tryz.f78) 1) acG:=lk (cx:=qQ) (sh:=Z2) (run:=fun n x=>M.yE x.1.2.2.1 x.1.2.2.2.1 x.2.2.2.1 n x.1.2.2.2.2.1 x.2.2.2.2.1) (bR:=aq2) Dm (fun m x=>by kernel_rfl) (af ⟨bW,fun _ _ _=>rfl⟩ aB)
theorem aq7:aA (acH (M.BB)):=bm (cx:=qQ) true Dm Tryz.func78 (hl2 aq5 aq6) ⟨zs0,fun x=>x.1.1⟩ (fun x=>by kernel_rfl)
def Xz(m:(List UInt8)->Option (M.ah×Int×Int)):aK K:={f:=52,sh:=zs1,R:=M.ah×Int×Int,run:=fun x=>m x.1.1,dflt:=default,out:=fun r=>(Sh.enc D (.bA [.el U.ba,iq0,iq0]) (r.1,(r.2.1,(r.2.2,()))),aQ.encs D [] ())}
def acI:Cx K:=bD [(75,.aX),(78,.plain)] [acA M.qi,acH M.BB] []
theorem aq8:aY acI:=bw aO _ (af aqV (af aq7 aB))
theorem ami:aA (Xz (M.BF)):=bm (cx:=acI) true aq8 Tryz.func52 hq ⟨VH,fun x=>(x.1.1.1,x.1.1.2.1,x.1.1.2.2.1)⟩ (fun x=>by kernel_rfl)
def Nj(m:M.ay->Option ((List UInt8)×M.ay)):aK K:={f:=63,sh:=oh,R:=(List UInt8)×M.ay,run:=fun x=>m x.2.1,dflt:=default,out:=fun r=>(Sh.enc D (.str) r.1,aQ.encs D [.el U.dr] (r.2,()))}
def acJ:Cx K:=bD [(45,.aX),(97,.plain),(96,.aX)] [wU M.lE,aap M.C4,Ig M.rK] []
theorem aq9:aY acJ:=bw aO _ (af zo (af aoO (af N8 aB)))
theorem Vm:aA (Nj (M.tO)):=bm (cx:=acJ) true aq9 Tryz.func63 hq ⟨NP,fun x=>(x.1.1,x.2.1)⟩ (fun x=>by kernel_rfl)
def ara(y:(List M.aj)×Int×Bool×(List M.aV)){R:Type}(k:KT R):R:=match y with|a0=>kk k (Ex.exit 0) Z3 (((),()),((a0.1,(a0.2.1,(a0.2.2.1,()))),((),(a0.2.2.2,()))))
def arb:List (cu K ((List M.aj)×Int×Bool×(List M.aV))):=[⟨(Ex.exit 0),Z3,fun x=>(x.2.1.1,x.2.1.2.1,x.2.1.2.2.1,x.2.2.2.1)⟩]
def acK:bM K:=bS D false 35 2 [0,3] [3] Z4 (fun x=>M.nJ ae x.2.1 x.2.2.2.1) ara
def acL(m:M.ay->Option ((List M.aV)×M.ay)):aK K:={f:=161,sh:=oh,R:=(List M.aV)×M.ay,run:=fun x=>m x.2.1,dflt:=default,out:=fun r=>(Sh.enc D (.ax U.dV) r.1,aQ.encs D [.el U.dr] (r.2,()))}
def Iy:Cx K:=bD [(61,.aX),(64,.aX),(62,.aX),(131,.aX),(165,.aX)] [oi M.dH,m7 M.dN,qJ M.fX,kx M.tR,Dl M.kh] [(5,acK)]
theorem acM:aY Iy:=bw aO _ (af pA (af oj (af sE (af Oi (af It aB)))))
theorem arc:bP Iy (bB (bK Tryz.f161) 0) acK:=lk (cx:=Iy) (sh:=Z4) (run:=fun n x=>M.nJ n x.2.1 x.2.2.2.1) (bR:=arb) acM (fun m x=>by kernel_rfl) (af ⟨bW,fun _ _ _=>rfl⟩ aB)
theorem ard:aA (acL (M.Bm)):=bm (cx:=Iy) true acM Tryz.func161 (hl1 arc) ⟨⟨[.ax U.dV],[.el U.dr]⟩,fun x=>(x.1.1,x.2.1)⟩ (fun x=>by kernel_rfl)
def acN(m:(List UInt8)->M.ay->Option (M.ai×M.ay)):aK K:={f:=129,sh:=HK,R:=M.ai×M.ay,run:=fun x=>m x.1.2.1 x.2.1,dflt:=default,out:=fun r=>(Sh.enc D (.el U.Item) r.1,aQ.encs D [.el U.dr] (r.2,()))}
def acO:Cx K:=bD [(64,.aX),(61,.aX),(161,.aX),(131,.aX)] [m7 M.dN,oi M.dH,acL M.Bm,kx M.tR] []
theorem arf:aY acO:=bw aO _ (af oj (af pA (af ard (af Oi aB))))
theorem arh:aA (acN (M.Bn)):=bm (cx:=acO) true arf Tryz.func129 hq ⟨NR,fun x=>(x.1.1,x.2.1)⟩ (fun x=>by kernel_rfl)
def Nh(m:M.ay->Option (M.aI×M.ay)):aK K:={f:=100,sh:=oh,R:=M.aI×M.ay,run:=fun x=>m x.2.1,dflt:=default,out:=fun r=>(Sh.enc D (.el U.Path) r.1,aQ.encs D [.el U.dr] (r.2,()))}
def acP:Cx K:=bD [(62,.aX),(64,.aX),(63,.aX)] [qJ M.fX,m7 M.dN,Nj M.tO] []
theorem ari:aY acP:=bw aO _ (af sE (af oj (af Vm aB)))
theorem Vf:aA (Nh (M.mh)):=bm (cx:=acP) true ari Tryz.func100 hq ⟨⟨[.el U.Path],[.el U.dr]⟩,fun x=>(x.1.1,x.2.1)⟩ (fun x=>by kernel_rfl)
def arj(y:(List M.aj)×Int×Bool×Int×(List UInt8)×Int×(List UInt8)×Bool×(List UInt8)×(List UInt8)×(List UInt8)×Int×(List UInt8)×Int×(List UInt8)×Bool×(List UInt8)×(List UInt8)×(List UInt8)×(List (List UInt8))×(List M.aa)×(List M.aV)×(List M.aW)×(List (List UInt8))×(List M.aa)×(List M.aV)×(List M.aW)){R:Type}(k:KT R):R:=match y with|a0=>kk k (Ex.exit 0) Z5 (((),((),())),((a0.1,(a0.2.1,(a0.2.2.1,()))),((a0.2.2.2.1,(a0.2.2.2.2.1,(a0.2.2.2.2.2.1,(a0.2.2.2.2.2.2.1,((),((),((),(a0.2.2.2.2.2.2.2.1,(a0.2.2.2.2.2.2.2.2.1,(a0.2.2.2.2.2.2.2.2.2.1,(a0.2.2.2.2.2.2.2.2.2.2.1,((),())))))))))))),((a0.2.2.2.2.2.2.2.2.2.2.2.1,(a0.2.2.2.2.2.2.2.2.2.2.2.2.1,(a0.2.2.2.2.2.2.2.2.2.2.2.2.2.1,(a0.2.2.2.2.2.2.2.2.2.2.2.2.2.2.1,((),((),((),(a0.2.2.2.2.2.2.2.2.2.2.2.2.2.2.2.1,(a0.2.2.2.2.2.2.2.2.2.2.2.2.2.2.2.2.1,(a0.2.2.2.2.2.2.2.2.2.2.2.2.2.2.2.2.2.1,(a0.2.2.2.2.2.2.2.2.2.2.2.2.2.2.2.2.2.2.1,((),())))))))))))),((),((),((),((),((),((),((),((),(a0.2.2.2.2.2.2.2.2.2.2.2.2.2.2.2.2.2.2.2.1,(a0.2.2.2.2.2.2.2.2.2.2.2.2.2.2.2.2.2.2.2.2.1,(a0.2.2.2.2.2.2.2.2.2.2.2.2.2.2.2.2.2.2.2.2.2.1,(a0.2.2.2.2.2.2.2.2.2.2.2.2.2.2.2.2.2.2.2.2.2.2.1,(a0.2.2.2.2.2.2.2.2.2.2.2.2.2.2.2.2.2.2.2.2.2.2.2.1,(a0.2.2.2.2.2.2.2.2.2.2.2.2.2.2.2.2.2.2.2.2.2.2.2.2.1,(a0.2.2.2.2.2.2.2.2.2.2.2.2.2.2.2.2.2.2.2.2.2.2.2.2.2.1,(a0.2.2.2.2.2.2.2.2.2.2.2.2.2.2.2.2.2.2.2.2.2.2.2.2.2.2,()))))))))))))))))))))
def ark:List (cu K ((List M.aj)×Int×Bool×Int×(List UInt8)×Int×(List UInt8)×Bool×(List UInt8)×(List UInt8)×(List UInt8)×Int×(List UInt8)×Int×(List UInt8)×Bool×(List UInt8)×(List UInt8)×(List UInt8)×(List (List UInt8))×(List M.aa)×(List M.aV)×(List M.aW)×(List (List UInt8))×(List M.aa)×(List M.aV)×(List M.aW))):=[⟨(Ex.exit 0),Z5,fun x=>(x.2.1.1,x.2.1.2.1,x.2.1.2.2.1,x.2.2.1.1,x.2.2.1.2.1,x.2.2.1.2.2.1,x.2.2.1.2.2.2.1,x.2.2.1.2.2.2.2.2.2.2.1,x.2.2.1.2.2.2.2.2.2.2.2.1,x.2.2.1.2.2.2.2.2.2.2.2.2.1,x.2.2.1.2.2.2.2.2.2.2.2.2.2.1,x.2.2.2.1.1,x.2.2.2.1.2.1,x.2.2.2.1.2.2.1,x.2.2.2.1.2.2.2.1,x.2.2.2.1.2.2.2.2.2.2.2.1,x.2.2.2.1.2.2.2.2.2.2.2.2.1,x.2.2.2.1.2.2.2.2.2.2.2.2.2.1,x.2.2.2.1.2.2.2.2.2.2.2.2.2.2.1,x.2.2.2.2.2.2.2.2.2.2.2.2.1,x.2.2.2.2.2.2.2.2.2.2.2.2.2.1,x.2.2.2.2.2.2.2.2.2.2.2.2.2.2.1,x.2.2.2.2.2.2.2.2.2.2.2.2.2.2.2.1,x.2.2.2.2.2.2.2.2.2.2.2.2.2.2.2.2.1,x.2.2.2.2.2.2.2.2.2.2.2.2.2.2.2.2.2.1,x.2.2.2.2.2.2.2.2.2.2.2.2.2.2.2.2.2.2.1,x.2.2.2.2.2.2.2.2.2.2.2.2.2.2.2.2.2.2.2.1)⟩]
def acQ:bM K:=bS D false 39 11 [0,2,3] [2,3] Z6 (fun x=>M.mi x.2.2.1.1 x.2.2.1.2.1 x.2.2.1.2.2.1 x.2.2.1.2.2.2.1 x.2.2.1.2.2.2.2.2.2.2.1 x.2.2.1.2.2.2.2.2.2.2.2.1 x.2.2.1.2.2.2.2.2.2.2.2.2.1 x.2.2.1.2.2.2.2.2.2.2.2.2.2.1 x.2.2.2.1.1 x.2.2.2.1.2.1 x.2.2.2.1.2.2.1 x.2.2.2.1.2.2.2.1 x.2.2.2.1.2.2.2.2.2.2.2.1 x.2.2.2.1.2.2.2.2.2.2.2.2.1 x.2.2.2.1.2.2.2.2.2.2.2.2.2.1 x.2.2.2.1.2.2.2.2.2.2.2.2.2.2.1 x.2.2.2.2.2.2.2.2.2.2.2.2.1 x.2.2.2.2.2.2.2.2.2.2.2.2.2.1 x.2.2.2.2.2.2.2.2.2.2.2.2.2.2.1 x.2.2.2.2.2.2.2.2.2.2.2.2.2.2.2.1 x.2.2.2.2.2.2.2.2.2.2.2.2.2.2.2.2.1 x.2.2.2.2.2.2.2.2.2.2.2.2.2.2.2.2.2.1 x.2.2.2.2.2.2.2.2.2.2.2.2.2.2.2.2.2.2.1 ae x.2.1 x.2.2.2.2.2.2.2.2.2.2.2.2.2.2.2.2.2.2.2.1) arj
def acR(m:M.ay->Option (M.ai×M.ay)):aK K:={f:=132,sh:=oh,R:=M.ai×M.ay,run:=fun x=>m x.2.1,dflt:=default,out:=fun r=>(Sh.enc D (.el U.Item) r.1,aQ.encs D [.el U.dr] (r.2,()))}
def Iz:Cx K:=bD [(100,.aX),(61,.aX),(130,.aX),(64,.aX),(165,.aX)] [Nh M.mh,oi M.dH,Is M.nE,m7 M.dN,Dl M.kh] [(4,acQ)]
theorem acS:aY Iz:=bw aO _ (af Vf (af pA (af Oh (af oj (af It aB)))))
theorem arl:bP Iz (bB (bK Tryz.f132) 0) acQ:=lk (cx:=Iz) (sh:=Z6) (run:=fun n x=>M.mi x.2.2.1.1 x.2.2.1.2.1 x.2.2.1.2.2.1 x.2.2.1.2.2.2.1 x.2.2.1.2.2.2.2.2.2.2.1 x.2.2.1.2.2.2.2.2.2.2.2.1 x.2.2.1.2.2.2.2.2.2.2.2.2.1 x.2.2.1.2.2.2.2.2.2.2.2.2.2.1 x.2.2.2.1.1 x.2.2.2.1.2.1 x.2.2.2.1.2.2.1 x.2.2.2.1.2.2.2.1 x.2.2.2.1.2.2.2.2.2.2.2.1 x.2.2.2.1.2.2.2.2.2.2.2.2.1 x.2.2.2.1.2.2.2.2.2.2.2.2.2.1 x.2.2.2.1.2.2.2.2.2.2.2.2.2.2.1 x.2.2.2.2.2.2.2.2.2.2.2.2.1 x.2.2.2.2.2.2.2.2.2.2.2.2.2.1 x.2.2.2.2.2.2.2.2.2.2.2.2.2.2.1 x.2.2.2.2.2.2.2.2.2.2.2.2.2.2.2.1 x.2.2.2.2.2.2.2.2.2.2.2.2.2.2.2.2.1 x.2.2.2.2.2.2.2.2.2.2.2.2.2.2.2.2.2.1 x.2.2.2.2.2.2.2.2.2.2.2.2.2.2.2.2.2.2.1 n x.2.1 x.2.2.2.2.2.2.2.2.2.2.2.2.2.2.2.2.2.2.2.1) (bR:=ark) acS (fun m x=>by kernel_rfl) (af ⟨bW,fun _ _ _=>rfl⟩ aB)
theorem arn:aA (acR (M.Bq)):=bm (cx:=Iz) true acS Tryz.func132 (hl1 arl) ⟨NR,fun x=>(x.1.1,x.2.1)⟩ (fun x=>by kernel_rfl)
def acT(m:M.ay->Option (M.ai×M.ay)):aK K:={f:=99,sh:=oh,R:=M.ai×M.ay,run:=fun x=>m x.2.1,dflt:=default,out:=fun r=>(Sh.enc D (.el U.Item) r.1,aQ.encs D [.el U.dr] (r.2,()))}
def acU:Cx K:=bD [(62,.aX),(64,.aX),(129,.aX),(130,.aX),(61,.aX),(131,.aX),(132,.aX)] [qJ M.fX,m7 M.dN,acN M.Bn,oi M.dH,Is M.nE,kx M.tR,acR M.Bq] []
theorem aro:aY acU:=bw aO _ (af sE (af oj (af arh (af pA (af Oh (af Oi (af arn aB)))))))
theorem arp:aA (acT (M.Br)):=bm (cx:=acU) true aro Tryz.func99 hq ⟨NR,fun x=>(x.1.1,x.2.1)⟩ (fun x=>by kernel_rfl)
def arq(y:(List M.aj)×Int×Bool×(List UInt8)×(List UInt8)×(List M.ai)×(List M.ai)){R:Type}(k:KT R):R:=match y with|a0=>kk k (Ex.exit 0) Z7 (((),((),())),((a0.1,(a0.2.1,(a0.2.2.1,()))),((a0.2.2.2.1,((),())),((a0.2.2.2.2.1,((),())),((),((),(a0.2.2.2.2.2.1,(a0.2.2.2.2.2.2,()))))))))
def ars:List (cu K ((List M.aj)×Int×Bool×(List UInt8)×(List UInt8)×(List M.ai)×(List M.ai))):=[⟨(Ex.exit 0),Z7,fun x=>(x.2.1.1,x.2.1.2.1,x.2.1.2.2.1,x.2.2.1.1,x.2.2.2.1.1,x.2.2.2.2.2.2.1,x.2.2.2.2.2.2.2.1)⟩]
def acV:bM K:=bS D false 34 5 [0,2,3] [2,3] Z8 (fun x=>M.tX x.2.2.1.1 x.2.2.2.1.1 x.2.2.2.2.2.2.1 ae x.2.1 x.2.2.2.2.2.2.2.1) arq
def Vk(m:M.ay->Option (M.aF×M.ay)):aK K:={f:=65,sh:=oh,R:=M.aF×M.ay,run:=fun x=>m x.2.1,dflt:=default,out:=fun r=>(Sh.enc D (.el U.dn) r.1,aQ.encs D [.el U.dr] (r.2,()))}
def IA:Cx K:=bD [(62,.aX),(61,.aX),(64,.aX),(99,.aX)] [qJ M.fX,oi M.dH,m7 M.dN,acT M.Br] [(3,acV)]
theorem acW:aY IA:=bw aO _ (af sE (af pA (af oj (af arp aB))))
theorem art:bP IA (bB (bK Tryz.f65) 0) acV:=lk (cx:=IA) (sh:=Z8) (run:=fun n x=>M.tX x.2.2.1.1 x.2.2.2.1.1 x.2.2.2.2.2.2.1 n x.2.1 x.2.2.2.2.2.2.2.1) (bR:=ars) acW (fun m x=>by kernel_rfl) (af ⟨bW,fun _ _ _=>rfl⟩ aB)
theorem akt:aA (Vk (M.yx)):=bm (cx:=IA) true acW Tryz.func65 (hl1 art) ⟨⟨[.el U.dn],[.el U.dr]⟩,fun x=>(x.1.1,x.2.1)⟩ (fun x=>by kernel_rfl)
def Nc(m:Option ((List (List UInt8)))):aK K:={f:=48,sh:=⟨[],[]⟩,R:=(List (List UInt8)),run:=fun x=>m,dflt:=default,out:=fun r=>(Sh.enc D (.ax U.str) r,aQ.encs D [] ())}
