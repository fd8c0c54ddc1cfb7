/-
  Part of the proof of the claim.
-/
import Derived.Test.YtkljhbbnhbklnaaGreatDoorXZCM
import Derived.Test.YtkljhbbnhbklnaaGreatDoorXXHdA
import Derived.Test.YtkljhbbnhbklnaaGreatDoorXXHdI
import Derived.Test.YtkljhbbnhbklnaaGreatDoorXXHdJ2
import Derived.Test.YtkljhbbnhbklnaaGreatDoorXXHdV
import Derived.Test.YtkljhbbnhbklnaaGreatDoorXWgD
import Derived.Test.YtkljhbbnhbklnaaGreatDoorProg
set_option linter.unusedVariables false
set_option maxRecDepth 100000
open Go Go.Proofs
open Go.V
noncomputable section
abbrev iq0:Go.V.Sh Go.V.K:=.int .i64
abbrev iq2:=Go.V.aI Go.V.K
abbrev zs0:iq2:=⟨[.bool],[]⟩
abbrev zs1:iq2:=⟨[.any],[]⟩
abbrev zs2:iq2:=⟨[iq0],[]⟩
abbrev eZ:iq2:=⟨[.str],[]⟩
abbrev zs4:iq2:=⟨[.any,iq0],[]⟩
abbrev zs5:iq2:=⟨[iq0,.any],[]⟩
abbrev m9:iq2:=⟨[.ptr 0 0],[.el U.dm]⟩
abbrev rz:iq2:=⟨[.str,iq0],[]⟩
abbrev rA:iq2:=⟨[.str,iq0,iq0],[]⟩
abbrev rq:iq2:=⟨[.el U.aJ],[]⟩
abbrev tY:iq2:=⟨[.ptr 0 0],[.el U.parser]⟩
abbrev Ix:iq2:=⟨[],[.box [.an U.Token,iq0,.bool],.box [.ptr 0 0],.box [iq0,.str,iq0,.str,.own 7,.own 8,.own 9,.bool,.str,.str,.str,.own 10],.dead,.dead,.dead,.dead,.arr U.str,.arr U.Term,.arr U.cY,.arr U.de]⟩
abbrev tL:iq2:=⟨[.ptr 0 0,.str,iq0],[.el U.aJ]⟩
abbrev vY:iq2:=⟨[.str,.str],[]⟩
abbrev yJ:iq2:=⟨[.int .u8],[]⟩
abbrev yn:iq2:=⟨[.an U.str],[]⟩
abbrev yK:iq2:=⟨[.ptr 0 0],[.box [.str,iq0,iq0,.own 2],.dead,.arr U.Token]⟩
abbrev yL:iq2:=⟨[.str],[.el U.parser]⟩
abbrev yw:iq2:=⟨[.str],[.dead]⟩
abbrev yx:iq2:=⟨[.any,.any,.bool],[.dead,.dead]⟩
abbrev Gy:iq2:=⟨[.bool],[.dead,.dead]⟩
abbrev Gz:iq2:=⟨[.any],[.dead,.dead]⟩
abbrev yA:iq2:=⟨[.el U.Path],[]⟩
abbrev Dh:iq2:=⟨[.an U.aJ,iq0],[]⟩
abbrev Di:iq2:=⟨[.an U.aJ],[]⟩
abbrev Gq:iq2:=⟨[.an U.str,iq0,iq0],[]⟩
abbrev Ij:iq2:=⟨[.bz [iq0,iq0]],[]⟩
abbrev Iy:iq2:=⟨[],[.box [.str,iq0,iq0,.own 2],.dead,.arr U.Token]⟩
abbrev Ha:iq2:=⟨[.any],[.dead]⟩
abbrev Iz:iq2:=⟨[.ptr 0 0,.str],[.el U.dm]⟩
abbrev IA:iq2:=⟨[.ptr 0 0,.str],[.el U.parser]⟩
abbrev IB:iq2:=⟨[],[.box [.an U.Token,iq0,.bool],.box [iq0,.str,.own 6,.own 7],.box [.ptr 0 0],.box [iq0],.dead,.dead,.arr U.str,.arr U.Term]⟩
abbrev IC:iq2:=⟨[],[.box [.an U.Token,iq0,.bool],.box [.ptr 0 0],.box [iq0,.str,.own 7,.own 8],.box [.fn 266 [.ptr 2 0,.ptr 1 0,.ptr 6 0]],.dead,.dead,.box [iq0],.arr U.str,.arr U.Term]⟩
abbrev ID:iq2:=⟨[.ptr 0 0,.ptr 1 0,.ptr 2 0],[.el U.parser,.box [.str,.own 5],.box [.str,.own 6],.dead,.dead,.arr U.Item,.arr U.Item]⟩
abbrev IE:iq2:=⟨[.ptr 0 0,.ptr 1 0,.ptr 2 0],[.el U.parser,.box [.str,.own 5],.box [.str,.own 6],.dead,.dead,.arr U.dt,.arr U.dt]⟩
abbrev abD:iq2:=⟨[.ptr 1 0,.ptr 2 0],[.box [.an U.Token,iq0,.bool],.box [.str,.str,.own 7,.own 8],.box [.str,.str,.own 9,.own 10],.dead,.dead,.dead,.dead,.arr U.cz,.arr U.cX,.arr U.cz,.arr U.cX]⟩
abbrev HM:iq2:=⟨[.el U.de],[]⟩
abbrev IF:iq2:=⟨[.ptr 0 0,.own 6,.own 7,.ptr 3 0,.own 8,.own 9,.an U.cz,iq0,iq0,.an U.Item,iq0,iq0],[.el U.aJ,.dead,.dead,.el U.cz,.dead,.dead,.arr U.str,.arr U.str,.arr U.str,.arr U.str]⟩
abbrev abE:iq2:=⟨[.any,.any,.any,.bool],[.dead,.dead,.dead,.dead,.dead]⟩
abbrev abG:iq2:=⟨[.ptr 0 0,.own 3,.own 4,.any],[.el U.aJ,.dead,.dead,.arr U.str,.arr U.str]⟩
abbrev Gt:iq2:=⟨[.own 3,.own 4],[.dead,.dead,.dead,.arr U.str,.arr U.str]⟩
abbrev Gs:iq2:=⟨[.ptr 0 0,.own 3,.own 4,iq0],[.el U.aJ,.dead,.dead,.arr U.str,.arr U.str]⟩
abbrev Gx:iq2:=⟨[.ptr 0 0,.ptr 1 0,iq0],[.el U.Term,.el U.Term]⟩
abbrev GN:iq2:=⟨[.el U.Item],[]⟩
abbrev GO:iq2:=⟨[.ptr 0 0,.ptr 1 0,.an U.cz,iq0,iq0],[.el U.aJ,.box [.np 1,.own 3],.dead,.arr U.u8]⟩
abbrev GQ:iq2:=⟨[.ptr 0 0,.own 3,.an U.cX,iq0,iq0],[.box [.np 0,.own 4],.dead,.dead,.arr U.str,.arr U.u8]⟩
abbrev G0:iq2:=⟨[.any,.bool],[.dead]⟩
abbrev G6:iq2:=⟨[.any,.any,.bool],[.dead]⟩
abbrev G7:iq2:=⟨[.ptr 0 0,iq0,.any],[.el U.aJ]⟩
abbrev G8:iq2:=⟨[.ptr 0 0,iq0,iq0],[.el U.aJ]⟩
abbrev G9:iq2:=⟨[.ptr 0 0,iq0],[.el U.aJ]⟩
abbrev Hg:iq2:=⟨[.ptr 0 0,.str,iq0],[.el U.Item]⟩
abbrev Hh:iq2:=⟨[.ptr 0 0,.str,iq0,iq0],[.el U.aJ]⟩
abbrev Hj:iq2:=⟨[.ptr 0 0,.ptr 1 0,iq0],[.el U.Item,.el U.Item]⟩
abbrev Hk:iq2:=⟨[.any,.any,.any,.bool],[.dead,.dead]⟩
abbrev Hl:iq2:=⟨[.ptr 0 0,.ptr 1 0,iq0,.any],[.el U.aJ,.el U.aJ]⟩
abbrev Hm:iq2:=⟨[.ptr 0 0,.ptr 1 0,iq0,iq0],[.el U.aJ,.el U.aJ]⟩
abbrev Hq:iq2:=⟨[.ptr 0 0,.ptr 1 0,iq0],[.el U.aJ,.el U.aJ]⟩
abbrev Ib:iq2:=⟨[.an U.aJ,iq0,iq0],[]⟩
abbrev aaA:iq2:=⟨[.an U.aJ,.str,iq0,.bool],[]⟩
abbrev Ir:iq2:=⟨[.el U.Problem],[]⟩
abbrev Is:iq2:=⟨[.an U.aJ,iq0,.el U.Path],[]⟩
abbrev NY:iq2:=⟨[.an U.str,iq0],[]⟩
abbrev OC:iq2:=⟨[.bz []],[.el U.dm]⟩
abbrev OD:iq2:=⟨[.str],[.el U.dm]⟩
abbrev OE:iq2:=⟨[.bz []],[.el U.parser,.box [iq0,.str,.own 6,.own 7],.box [.ptr 0 0],.box [iq0],.dead,.dead,.arr U.str,.arr U.Term]⟩
abbrev OF:iq2:=⟨[.el U.Item],[.el U.dm]⟩
abbrev N2:iq2:=⟨[.el U.Term,iq0],[]⟩
abbrev N3:iq2:=⟨[.el U.Term,.el U.Term],[]⟩
abbrev Oa:iq2:=⟨[.el U.Item,.el U.Item],[]⟩
abbrev Oc:iq2:=⟨[.el U.aJ,.el U.aJ],[]⟩
abbrev Oz:iq2:=⟨[.bz [iq0,.el U.Choice,.el U.Problem]],[]⟩
abbrev abH:iq2:=⟨[.an U.str,.an U.str,iq0],[]⟩
abbrev abI:iq2:=⟨[.any,.any,.any,.any,iq0],[]⟩
abbrev abJ:iq2:=⟨[.str,iq0,iq0,iq0,.any],[]⟩
abbrev abK:iq2:=⟨[.str,iq0,iq0,iq0,iq0],[]⟩
abbrev abL:iq2:=⟨[iq0,.an U.str,iq0,iq0],[]⟩
abbrev abM:iq2:=⟨[.an U.str,.str,iq0,iq0],[]⟩
abbrev abN:iq2:=⟨[.an U.str,.own 1,iq0],[.dead,.arr U.str]⟩
abbrev abO:iq2:=⟨[.any,.any,iq0,iq0],[]⟩
abbrev abP:iq2:=⟨[iq0,iq0,.any,.any],[]⟩
abbrev abQ:iq2:=⟨[.any,.any,.own 2,iq0,iq0],[.dead,.dead,.arr U.Token]⟩
abbrev abR:iq2:=⟨[.own 1,iq0,.any,.any,.any],[.dead,.arr U.Token]⟩
abbrev abS:iq2:=⟨[.str,.own 1,iq0,iq0],[.dead,.arr U.Token]⟩
abbrev abT:iq2:=⟨[.bz [.an U.Token,iq0,iq0]],[]⟩
abbrev abU:iq2:=⟨[.any,.dn,iq0,iq0],[.dead,.dead,.dead]⟩
abbrev abV:iq2:=⟨[.ptr 0 0,.any,.any,.any],[.box [.str,iq0,iq0,.own 2],.dead,.arr U.Token]⟩
abbrev abW:iq2:=⟨[.str,.ptr 0 0],[.box [.str,iq0,iq0,.own 2],.dead,.arr U.Token]⟩
abbrev abX:iq2:=⟨[.str,.own 1,iq0],[.dead,.arr U.str]⟩
abbrev abY:iq2:=⟨[.ptr 0 0,iq0,.fn 266 [.ptr 1 0,.ptr 2 0,.ptr 3 0],iq0],[.el U.parser,.box [iq0,.str,.own 6,.own 7],.box [.ptr 0 0],.box [iq0],.dead,.dead,.arr U.str,.arr U.Term]⟩
abbrev abZ:iq2:=⟨[],[.box [iq0,.str,.own 3,.own 4],.dead,.dead,.arr U.str,.arr U.Term]⟩
abbrev ab1:iq2:=⟨[.ptr 0 0],[.box [iq0,.str,.own 3,.own 4],.dead,.dead,.arr U.str,.arr U.Term]⟩
abbrev ab2:iq2:=⟨[.ptr 0 0,.ptr 1 0,.fn 266 [.ptr 1 0,.ptr 2 0,.ptr 3 0]],[.el U.parser,.box [iq0,.str,.own 4,.own 5],.box [.ptr 0 0],.box [iq0],.arr U.str,.arr U.Term]⟩
abbrev ab3:iq2:=⟨[.ptr 0 0,iq0,.fn 268 [.ptr 1 0,.ptr 2 0,.ptr 3 0],iq0],[.el U.parser,.box [.ptr 0 0],.box [iq0,.str,.own 7,.own 8],.box [.fn 266 [.ptr 2 0,.ptr 1 0,.ptr 6 0]],.dead,.dead,.box [iq0],.arr U.str,.arr U.Term]⟩
abbrev ab4:iq2:=⟨[.ptr 0 0,.ptr 1 0],[.box [.ptr 2 0],.box [iq0,.str,iq0,.str,.own 3,.own 4,.own 5,.bool,.str,.str,.str,.own 6],.box [.an U.Token,iq0,.bool],.arr U.str,.arr U.Term,.arr U.cY,.arr U.de]⟩
abbrev ab5:iq2:=⟨[.bz []],[.box [.ptr 2 0],.box [iq0,.str,iq0,.str,.own 7,.own 8,.own 9,.bool,.str,.str,.str,.own 10],.box [.an U.Token,iq0,.bool],.dead,.dead,.dead,.dead,.arr U.str,.arr U.Term,.arr U.cY,.arr U.de]⟩
abbrev ab6:iq2:=⟨[.ptr 0 0,iq0,.fn 262 [.ptr 1 0,.ptr 2 0],iq0],[.el U.parser,.box [.ptr 0 0],.box [iq0,.str,iq0,.str,.own 7,.own 8,.own 9,.bool,.str,.str,.str,.own 10],.dead,.dead,.dead,.dead,.arr U.str,.arr U.Term,.arr U.cY,.arr U.de]⟩
abbrev ab7:iq2:=⟨[.bz []],[.el U.parser,.box [.ptr 0 0],.box [iq0,.str,iq0,.str,.own 7,.own 8,.own 9,.bool,.str,.str,.str,.own 10],.dead,.dead,.dead,.dead,.arr U.str,.arr U.Term,.arr U.cY,.arr U.de]⟩
abbrev ab8:iq2:=⟨[.ptr 0 0,iq0,.fn 247 [.ptr 1 0,.ptr 2 0],iq0],[.el U.parser,.box [.ptr 0 0],.box [iq0,.str,iq0,.str,.own 7,.own 8,.own 9,.bool,.str,.str,.str,.own 10],.dead,.dead,.dead,.dead,.arr U.str,.arr U.Term,.arr U.cY,.arr U.de]⟩
abbrev ab9:iq2:=⟨[],[.box [.an U.Token,iq0,.bool],.box [iq0,.str,.own 4,.own 5],.dead,.dead,.arr U.str,.arr U.Term]⟩
abbrev aca:iq2:=⟨[.ptr 0 0,.ptr 1 0,iq0],[.el U.dm,.box [iq0,.str,.own 4,.own 5],.dead,.dead,.arr U.str,.arr U.Term]⟩
abbrev acb:iq2:=⟨[.ptr 1 0,.ptr 2 0],[.box [.an U.Token,iq0,.bool],.box [iq0,.str,.own 7,.own 8],.box [iq0,.str,.own 9,.own 10],.dead,.dead,.dead,.dead,.arr U.str,.arr U.Term,.arr U.str,.arr U.Term]⟩
abbrev acd:iq2:=⟨[.ptr 0 0,iq0,.ptr 1 0,.ptr 2 0],[.el U.dm,.box [iq0,.str,.own 7,.own 8],.box [iq0,.str,.own 9,.own 10],.dead,.dead,.dead,.dead,.arr U.str,.arr U.Term,.arr U.str,.arr U.Term]⟩
abbrev ace:iq2:=⟨[.ptr 0 0,.ptr 1 0,.ptr 2 0],[.el U.parser,.box [.str,.str,.own 7,.own 8],.box [.str,.str,.own 9,.own 10],.dead,.dead,.dead,.dead,.arr U.cz,.arr U.cX,.arr U.cz,.arr U.cX]⟩
abbrev acf:iq2:=⟨[.ptr 0 0,.own 6,.own 7,.ptr 3 0,.own 8,.own 9,.an U.cz,iq0,iq0,.an U.Item,iq0,iq0,.an U.de,iq0,iq0],[.el U.aJ,.dead,.dead,.el U.cz,.dead,.dead,.arr U.str,.arr U.str,.arr U.str,.arr U.str]⟩
abbrev acg:iq2:=⟨[.ptr 0 0,.own 6,.own 7,.ptr 3 0,.own 8,.own 9,.an U.cz,iq0,iq0],[.el U.aJ,.dead,.dead,.el U.cz,.dead,.dead,.arr U.str,.arr U.str,.arr U.str,.arr U.str]⟩
abbrev ach:iq2:=⟨[.ptr 0 0,.own 3,.own 4,.an U.cz,iq0,iq0],[.el U.aJ,.dead,.dead,.arr U.str,.arr U.str]⟩
abbrev aci:iq2:=⟨[.own 2,.own 3],[.dead,.dead,.arr U.str,.arr U.str]⟩
abbrev acj:iq2:=⟨[.own 2,.own 3,.an U.cX,iq0,iq0],[.dead,.dead,.arr U.str,.arr U.str]⟩
abbrev VD:iq2:=⟨[.bz [.el U.aJ,iq0,iq0]],[]⟩
abbrev ack:iq2:=⟨[.own 2],[.box [.an U.Token,iq0,.bool],.dead,.arr U.cY]⟩
abbrev acm:iq2:=⟨[.ptr 0 0,.own 2],[.el U.dm,.dead,.arr U.cY]⟩
abbrev acn:iq2:=⟨[.ptr 1 0,.ptr 2 0],[.box [.an U.Token,iq0,.bool],.box [iq0,.str,iq0,.str,.own 11,.own 12,.own 13,.bool,.str,.str,.str,.own 14],.box [iq0,.str,iq0,.str,.own 15,.own 16,.own 17,.bool,.str,.str,.str,.own 18],.dead,.dead,.dead,.dead,.dead,.dead,.dead,.dead,.arr U.str,.arr U.Term,.arr U.cY,.arr U.de,.arr U.str,.arr U.Term,.arr U.cY,.arr U.de]⟩
abbrev aco:iq2:=⟨[.ptr 0 0,.ptr 1 0,.ptr 2 0],[.el U.dm,.box [iq0,.str,iq0,.str,.own 11,.own 12,.own 13,.bool,.str,.str,.str,.own 14],.box [iq0,.str,iq0,.str,.own 15,.own 16,.own 17,.bool,.str,.str,.str,.own 18],.dead,.dead,.dead,.dead,.dead,.dead,.dead,.dead,.arr U.str,.arr U.Term,.arr U.cY,.arr U.de,.arr U.str,.arr U.Term,.arr U.cY,.arr U.de]⟩
abbrev acp:iq2:=⟨[.ptr 1 0,.ptr 2 0],[.box [.an U.Token,iq0,.bool],.box [.str,.own 5],.box [.str,.own 6],.dead,.dead,.arr U.Item,.arr U.Item]⟩
abbrev acr:iq2:=⟨[.ptr 0 0,.ptr 1 0,.ptr 2 0],[.el U.dm,.box [.str,.own 5],.box [.str,.own 6],.dead,.dead,.arr U.Item,.arr U.Item]⟩
abbrev acs:iq2:=⟨[.ptr 0 0,.ptr 1 0,.ptr 2 0,.ptr 3 0],[.el U.dm,.box [.str,.own 6],.box [.str,.own 7],.el U.dt,.dead,.dead,.arr U.dt,.arr U.dt]⟩
abbrev acu:iq2:=⟨[.ptr 0 0,.ptr 1 0,.ptr 2 0,.ptr 3 0,iq0],[.el U.dm,.box [.str,.own 6],.box [.str,.own 7],.el U.dt,.dead,.dead,.arr U.dt,.arr U.dt]⟩
abbrev acv:iq2:=⟨[.ptr 1 0,.ptr 2 0],[.box [.an U.Token,iq0,.bool],.box [.str,.own 5],.box [.str,.own 6],.dead,.dead,.arr U.dt,.arr U.dt]⟩
abbrev acw:iq2:=⟨[.ptr 0 0,.ptr 1 0,.ptr 2 0],[.el U.dm,.box [.str,.own 5],.box [.str,.own 6],.dead,.dead,.arr U.dt,.arr U.dt]⟩
abbrev acx:iq2:=⟨[.ptr 0 0,.ptr 1 0,.ptr 2 0],[.el U.dm,.box [.str,.str,.own 7,.own 8],.box [.str,.str,.own 9,.own 10],.dead,.dead,.dead,.dead,.arr U.cz,.arr U.cX,.arr U.cz,.arr U.cX]⟩
abbrev acy:iq2:=⟨[.ptr 0 0,.own 4,.own 5,iq0],[.el U.cz,.dead,.dead,.dead,.arr U.str,.arr U.str]⟩
abbrev acz:iq2:=⟨[.ptr 0 0,.own 4,.own 5,iq0,.ptr 3 0,iq0],[.el U.cz,.dead,.dead,.el U.Item,.arr U.str,.arr U.str]⟩
abbrev acA:iq2:=⟨[.ptr 0 0,.own 3,.own 4,iq0],[.el U.cz,.dead,.dead,.arr U.str,.arr U.str]⟩
abbrev VF:iq2:=⟨[iq0,.ptr 0 0,iq0,iq0],[.el U.Term]⟩
abbrev VO:iq2:=⟨[.ptr 0 0,.str,iq0],[.el U.Term]⟩
abbrev VV:iq2:=⟨[.ptr 0 0,.ptr 1 0,.any],[.el U.Term,.el U.Term]⟩
abbrev V2:iq2:=⟨[.an U.str,.an U.str,iq0,iq0],[]⟩
abbrev V8:iq2:=⟨[.an U.Term,.fn 216 [.rp U.i64 0],.an U.Term,iq0,iq0],[]⟩
abbrev Wg:iq2:=⟨[.ptr 0 0,.str,.own 2],[.el U.Term,.dead,.arr U.str]⟩
abbrev Wi:iq2:=⟨[iq0,.ptr 0 0,.str,.own 2,.an U.Term,iq0,iq0],[.el U.Term,.dead,.arr U.str]⟩
abbrev Wm:iq2:=⟨[.an U.str,.ptr 0 0,.own 2,.an U.str,iq0,iq0],[.el U.Term,.dead,.arr U.str]⟩
abbrev Ww:iq2:=⟨[.ptr 0 0,.own 2],[.el U.Item,.dead,.arr U.str]⟩
abbrev Wy:iq2:=⟨[.ptr 0 0,.own 2,.an U.de,iq0,iq0],[.el U.Item,.dead,.arr U.str]⟩
abbrev WA:iq2:=⟨[.ptr 0 0,.own 2,.str],[.el U.Item,.dead,.arr U.str]⟩
abbrev WC:iq2:=⟨[.ptr 0 0,.own 2,.str,.an U.cY,iq0,iq0],[.el U.Item,.dead,.arr U.str]⟩
abbrev WH:iq2:=⟨[.ptr 0 0,.ptr 1 0,.an U.cz,iq0,iq0,.an U.Item,iq0,iq0],[.el U.aJ,.box [.np 1,.own 3],.dead,.arr U.u8]⟩
abbrev WI:iq2:=⟨[.ptr 0 0,.ptr 1 0],[.el U.aJ,.box [.np 1,.own 3],.dead,.arr U.u8]⟩
abbrev WM:iq2:=⟨[.ptr 0 0,.own 3,.an U.cX,iq0,iq0,.an U.dt,iq0,iq0],[.box [.np 0,.own 4],.dead,.dead,.arr U.str,.arr U.u8]⟩
abbrev WN:iq2:=⟨[.ptr 0 0],[.box [.np 0,.own 3],.dead,.dead,.arr U.u8]⟩
abbrev WS:iq2:=⟨[.an U.de,.an U.de,iq0,iq0],[]⟩
abbrev WW:iq2:=⟨[.el U.cY,.el U.cY],[]⟩
abbrev WZ:iq2:=⟨[.an U.cY,.fn 181 [],.an U.cY,iq0,iq0],[]⟩
abbrev W8:iq2:=⟨[.an U.Item,.fn 129 [],.an U.Item,iq0,iq0],[]⟩
abbrev Xe:iq2:=⟨[.an U.cz,.fn 127 [],.an U.cz,iq0,iq0],[]⟩
abbrev Xi:iq2:=⟨[.an U.dt,.an U.dt,iq0,iq0],[]⟩
abbrev Xk:iq2:=⟨[.an U.dt,.an U.dt],[]⟩
abbrev Xn:iq2:=⟨[.el U.cX,.el U.cX],[]⟩
abbrev Xq:iq2:=⟨[.an U.cX,.fn 131 [],.an U.cX,iq0,iq0],[]⟩
abbrev XR:iq2:=⟨[.ptr 0 0,.ptr 1 0,.any],[.el U.Item,.el U.Item]⟩
abbrev XW:iq2:=⟨[.ptr 0 0,.ptr 1 0,.any],[.el U.aJ,.el U.aJ]⟩
abbrev X4:iq2:=⟨[.an U.Term,iq0,iq0],[]⟩
abbrev Ye:iq2:=⟨[.an U.cY,iq0,iq0],[]⟩
abbrev Yj:iq2:=⟨[.an U.de,iq0,iq0],[]⟩
abbrev Yp:iq2:=⟨[.an U.Item,iq0,iq0],[]⟩
abbrev Yv:iq2:=⟨[.an U.cz,iq0,iq0],[]⟩
abbrev YB:iq2:=⟨[.an U.dt,iq0,iq0],[]⟩
abbrev YH:iq2:=⟨[.an U.cX,iq0,iq0],[]⟩
abbrev YN:iq2:=⟨[.an U.Term,.own 1,iq0],[.dead,.tree U.Term]⟩
abbrev YX:iq2:=⟨[.an U.cY,.own 1,iq0],[.dead,.tree U.cY]⟩
abbrev Y3:iq2:=⟨[.an U.de,.own 1,iq0],[.dead,.arr U.de]⟩
abbrev Y9:iq2:=⟨[.an U.Item,.own 1,iq0],[.dead,.tree U.Item]⟩
abbrev Zf:iq2:=⟨[.an U.cz,.own 1,iq0],[.dead,.tree U.cz]⟩
abbrev Zl:iq2:=⟨[.an U.dt,.own 1,iq0],[.dead,.arr U.dt]⟩
abbrev Zr:iq2:=⟨[.an U.cX,.own 1,iq0],[.dead,.tree U.cX]⟩
abbrev Zx:iq2:=⟨[.an U.Term,.an U.Term,iq0],[]⟩
abbrev ZH:iq2:=⟨[.an U.cY,.an U.cY,iq0],[]⟩
abbrev ZN:iq2:=⟨[.an U.de,.an U.de,iq0],[]⟩
abbrev ZT:iq2:=⟨[.an U.Item,.an U.Item,iq0],[]⟩
abbrev ZZ:iq2:=⟨[.an U.cz,.an U.cz,iq0],[]⟩
abbrev Z5:iq2:=⟨[.an U.dt,.an U.dt,iq0],[]⟩
abbrev aac:iq2:=⟨[.an U.cX,.an U.cX,iq0],[]⟩
abbrev aan:iq2:=⟨[.an U.aJ,.fn 56 [.rp U.aJ 0],iq0,iq0],[]⟩
abbrev aap:iq2:=⟨[.an U.aJ,.fn 56 [.rp U.aJ 0]],[]⟩
abbrev aau:iq2:=⟨[.an U.aJ,.an U.aJ,iq0,iq0],[]⟩
abbrev aaD:iq2:=⟨[.an U.aJ,.str,.str,iq0,.bool,iq0],[]⟩
abbrev aaG:iq2:=⟨[.bz [iq0,iq0,iq0]],[]⟩
abbrev aaT:iq2:=⟨[.an U.aJ,.str,.str,iq0,.bool,.an U.aJ,iq0,iq0],[]⟩
abbrev aa0:iq2:=⟨[.an U.aJ,.own 1,iq0],[.dead,.tree U.aJ]⟩
abbrev aa4:iq2:=⟨[.an U.aJ,.an U.aJ,iq0],[]⟩
def OG:Go.TypeId->Option U:=dR [(2,U.i64),(3,U.i64),(4,U.bool),(5,U.u8),(6,U.u8),(9,U.str),(10,U.str),(11,U.str),(12,U.u64),(21,U.i32),(22,U.tz),(24,U.Path),(27,U.Path),(29,U.Choice),(31,U.Problem),(34,U.tz),(42,U.tu),(43,U.tG),(45,U.aJ),(48,U.tu),(49,U.tG),(51,U.aJ),(76,U.tw),(78,U.cz),(80,U.tH),(82,U.cX),(88,U.tw),(90,U.cz),(92,U.tH),(94,U.cX),(112,U.vD),(117,U.tA),(119,U.Term),(120,U.tB),(121,U.tD),(123,U.Item),(126,U.dt),(128,U.tA),(130,U.Term),(131,U.tB),(132,U.tD),(134,U.Item),(136,U.dt),(137,U.vC),(142,U.dm),(145,U.Token),(164,U.cY),(178,U.de),(180,U.vE),(206,U.cY),(208,U.de),(224,U.parser),(232,U.i64),(233,U.u64),(236,U.u64),(252,U.mg),(285,U.u32),(305,U.i64),(314,U.u64),(329,U.u8),(330,U.u8),(332,U.i32),(333,U.i32)]
def ar0:Go.TypeId->List (Option U):=ef [] [(22,[some U.aJ]),(34,[some U.aJ]),(42,[some U.cz]),(43,[some U.cX]),(45,[none,none,some U.cz,some U.cX]),(48,[some U.cz]),(49,[some U.cX]),(51,[none,none,some U.cz,some U.cX]),(76,[some U.Item]),(78,[none,some U.Item]),(80,[some U.dt]),(82,[none,some U.dt]),(88,[some U.Item]),(90,[none,some U.Item]),(92,[some U.dt]),(94,[none,some U.dt]),(112,[some U.str]),(117,[some U.Term]),(119,[none,none,some U.str,some U.Term]),(120,[some U.cY]),(121,[some U.de]),(123,[none,none,none,none,some U.str,some U.Term,some U.cY,none,none,none,none,some U.de]),(128,[some U.Term]),(130,[none,none,some U.str,some U.Term]),(131,[some U.cY]),(132,[some U.de]),(134,[none,none,none,none,some U.str,some U.Term,some U.cY,none,none,none,none,some U.de]),(137,[some U.Token]),(142,[some U.Token,none,none]),(164,[none,none,none,some U.str,some U.Term]),(180,[some U.u8]),(186,[none,some U.u8]),(206,[none,none,none,some U.str,some U.Term]),(224,[some U.Token,none,none]),(252,[none,none,none,some U.Token])]
theorem fP:Tryz.prog.follows .mixedOrders=true:=by kernel_rfl
abbrev au(c:aE K):Prop:=c.Ok D Tryz.prog
abbrev KT(R:Type):=Ex->List (AV K)->List (Ob K)->R
def kk{R:Type}(k:KT R)(e:Ex)(s:aI K)(v:s.T):R:=k e (aI.lC D s v) (aI.l8 D s v)
def cB(f:FuncId)(sh:aI K)(run:sh.T->Option Bool):aE K:={f:=f,sh:=sh,R:=Bool,run:=run,dflt:=default,out:=fun r=>(Sh.enc D (.bool) r,aY.encs D [] ())}
def cI(f:FuncId)(sh:aI K)(run:sh.T->Option Int):aE K:={f:=f,sh:=sh,R:=Int,run:=run,dflt:=default,out:=fun r=>(Sh.enc D (.int .i64) r,aY.encs D [] ())}
def cS(f:FuncId)(sh:aI K)(run:sh.T->Option (List UInt8)):aE K:={f:=f,sh:=sh,R:=List UInt8,run:=run,dflt:=default,out:=fun r=>(Sh.enc D (.str) r,aY.encs D [] ())}
def eM:Cx K:={P:=Tryz.prog,D:=D,ty:=OG,nk:=ar0,mode:=ef .plain [],call:=callOf D [],loop:=dR []}
def bg(m:List (FuncId×Go.V.Mode))(c:List (aE K))(l:List (Nat×bE K)):Cx K:={eM with mode:=ef .plain m,call:=callOf D c,loop:=dR l}
theorem hq{cx:Cx K}{fn:Func}(h:(jt (bD fn)).length=0:=by kernel_rfl):∀c,fn.body=some c->ir cx c:=LY (SE h)
theorem hl1{cx:Cx K}{fn:Func}{L:bE K}(o:bF cx (bp (bD fn) 0) L)(h:(jt (bD fn)).length=1:=by kernel_rfl)(k:cx.loop (keyOf (bp (bD fn) 0))=some L:=by kernel_rfl):∀c,fn.body=some c->ir cx c:=LY (afH 1 h (ju (.mk k o)))
theorem hl2{cx:Cx K}{fn:Func}{L M:bE K}(o:bF cx (bp (bD fn) 0) L)(p:bF cx (bp (bD fn) 1) M)(h:(jt (bD fn)).length=2:=by kernel_rfl)(k:cx.loop (keyOf (bp (bD fn) 0))=some L:=by kernel_rfl)(l:cx.loop (keyOf (bp (bD fn) 1))=some M:=by kernel_rfl):∀c,fn.body=some c->ir cx c:=LY (afH 2 h (lt_succ (ju (.mk k o)) (.mk l p)))
theorem lk{cx:Cx K}{c:Code}{n n0:Nat}{ins outs:List Nat}{sh:aI K}{Y:Type}{run:Nat->sh.T->Option Y}{bG:List (cn K Y)}{out:Y->{R:Type}->(Ex->List (AV K)->List (Ob K)->R)->R}(hc:aN cx)(hs:∀m x,fW cx c (uS cx.D n ins sh x) (LS cx n n0 ins outs sh (run m) (xc cx.D bG))=run (m+1) x)(hx:∀d∈bG,d.e≠.normal/\∀x (R:Type) (k:Ex->List (AV K)->List (Ob K)->R),out (d.conv x) k=k d.e (d.sh.lC cx.D x) (d.sh.l8 cx.D x))(hl:ir cx c:=by exact SE (by kernel_rfl))(hD:bN cx.D:=by exact aL)(hm:cx.P.follows .mixedOrders=true:=by exact fP)(h0:∀x,run 0 x=none:=by exact fun _=>rfl):bF cx c (bH cx.D false n n0 ins outs sh (run ah) out):=aif hD hc hm hl h0 hs hx false ah
theorem aS{cx:Cx K}(fz:Bool)(hc:aN cx){c:aE K}{fn:Func}(hg:cx.P.funcs[c.f]?=some fn)(hl:∀b,fn.body=some b->ir cx b)(d:zL K cx.D c.R)(he:∀x,ET cx fz fn (c.sh.lC cx.D x) (c.sh.l8 cx.D x) d.fin=c.run x)(hD:bN cx.D:=by exact aL)(hm:cx.P.follows .mixedOrders=true:=by exact fP)(hn:(fn.name== "runtime.NumGoroutine")=false:=by kernel_rfl)(ho:∀x,([(c.out (d.conv x)).1],(c.out (d.conv x)).2)=(d.sh.lC cx.D x,d.sh.l8 cx.D x):=by exact fun x=>rfl):c.Ok cx.D cx.P:=fR hD hc hm ⟨hg,hn⟩ hl d ho he
def OH(m:Int->Option Bool):aE K:=cB 239 yJ (fun x=>m x.1.1)
def fy:Cx K:=bg [] [] []
theorem fG:aN fy:=aV aL _ ay
theorem acB:au (OH (M.OI)):=aS (cx:=fy) true fG Tryz.func239 hq ⟨zs0,fun x=>x.1.1⟩ (fun x=>by kernel_rfl)
def OJ(m:Int->Option Bool):aE K:=cB 241 yJ (fun x=>m x.1.1)
theorem acC:au (OJ (M.OK)):=aS (cx:=fy) true fG Tryz.func241 hq ⟨zs0,fun x=>x.1.1⟩ (fun x=>by kernel_rfl)
def oh(y:Int⊕Int){R:Type}(k:KT R):R:=match y with|.inl a0=>kk k Ex.ret zs4 (((),(a0,())),())|.inr a1=>kk k (Ex.exit 0) zs5 ((a1,((),())),())
def oi:List (cn K ((Int)⊕Int)):=[⟨Ex.ret,zs4,fun x=>.inl x.1.2.1⟩,⟨(Ex.exit 0),zs5,fun x=>.inr (x.1.1)⟩]
def acD:bE K:=bH D false 28 0 [0,1,5] [1,4] Gq (fun x=>M.v8 x.1.1 ah x.1.2.1 x.1.2.2.1) oh
def X8(m:(List (List UInt8))->Int->Option Int):aE K:=cI 143 NY (fun x=>m x.1.1 x.1.2.1)
def IG:Cx K:=bg [] [] [(5,acD)]
theorem acE:aN IG:=aV aL _ ay
theorem ar1:bF IG (bp (bD Tryz.f143) 0) acD:=lk (cx:=IG) (sh:=Gq) (run:=fun n x=>M.v8 x.1.1 n x.1.2.1 x.1.2.2.1) (bG:=oi) acE (fun m x=>by kernel_rfl) (ae ⟨cO,fun _ _ _=>rfl⟩ (ae ⟨bJ,fun _ _ _=>rfl⟩ ay))
theorem apn:au (X8 (M.B7)):=aS (cx:=IG) true acE Tryz.func143 (hl1 ar1) ⟨zs2,fun x=>x.1.1⟩ (fun x=>by kernel_rfl)
def iU(y:Bool⊕Unit){R:Type}(k:KT R):R:=match y with|.inl a0=>kk k Ex.ret zs0 ((a0,()),())|.inr a1=>kk k (Ex.exit 0) zs1 (((),()),())
def iV:List (cn K ((Bool)⊕Unit)):=[⟨Ex.ret,zs0,fun x=>.inl x.1.1⟩,⟨(Ex.exit 0),zs1,fun x=>.inr (())⟩]
def acF:bE K:=bH D false 26 0 [0,1,5] [4] abH (fun x=>M.wa x.1.1 x.1.2.1 ah x.1.2.2.1) iU
def ZB(m:(List (List UInt8))->(List (List UInt8))->Option Bool):aE K:=cB 192 ⟨[.an U.str,.an U.str],[]⟩ (fun x=>m x.1.1 x.1.2.1)
def IH:Cx K:=bg [] [] [(4,acF)]
theorem acG:aN IH:=aV aL _ ay
theorem ar2:bF IH (bp (bD Tryz.f192) 0) acF:=lk (cx:=IH) (sh:=abH) (run:=fun n x=>M.wa x.1.1 x.1.2.1 n x.1.2.2.1) (bG:=iV) acG (fun m x=>by kernel_rfl) (ae ⟨cO,fun _ _ _=>rfl⟩ (ae ⟨bJ,fun _ _ _=>rfl⟩ ay))
theorem aqB:au (ZB (M.CY)):=aS (cx:=IH) true acG Tryz.func192 (hl1 ar2) ⟨zs0,fun x=>x.1.1⟩ (fun x=>by kernel_rfl)
def yt(m:Int->Int->Int->Option Bool):aE K:=cB 29 ⟨[iq0,iq0,iq0],[]⟩ (fun x=>m x.1.1 x.1.2.1 x.1.2.2.1)
theorem BU:au (yt (M.yu)):=aS (cx:=fy) true fG Tryz.func29 hq ⟨zs0,fun x=>x.1.1⟩ (fun x=>by kernel_rfl)
def acH:bE K:=bH D false 69 0 [0,3] [2] rz (fun x=>M.vz x.1.1 ah x.1.2.1) iU
def acI(m:(List UInt8)->Option Bool):aE K:=cB 48 eZ (fun x=>m x.1.1)
def II:Cx K:=bg [] [] [(4,acH)]
theorem acJ:aN II:=aV aL _ ay
theorem ar4:bF II (bp (bD Tryz.f48) 0) acH:=lk (cx:=II) (sh:=rz) (run:=fun n x=>M.vz x.1.1 n x.1.2.1) (bG:=iV) acJ (fun m x=>by kernel_rfl) (ae ⟨cO,fun _ _ _=>rfl⟩ (ae ⟨bJ,fun _ _ _=>rfl⟩ ay))
theorem ar5:au (acI (M.BP)):=aS (cx:=II) true acJ Tryz.func48 (hl1 ar4) ⟨zs0,fun x=>x.1.1⟩ (fun x=>by kernel_rfl)
def BV(m:Int->Int->Int->Option Bool):aE K:=cB 37 ⟨[iq0,iq0,iq0],[]⟩ (fun x=>m x.1.1 x.1.2.1 x.1.2.2.1)
theorem GL:au (BV (M.BW)):=aS (cx:=fy) true fG Tryz.func37 hq ⟨zs0,fun x=>x.1.1⟩ (fun x=>by kernel_rfl)
def ar6(y:Bool⊕((List UInt8))){R:Type}(k:KT R):R:=match y with|.inl a0=>kk k Ex.ret ⟨[.any,.bool],[]⟩ (((),(a0,())),())|.inr a1=>kk k (Ex.exit 0) ⟨[.str,.any],[]⟩ ((a1,((),())),())
def ar7:List (cn K ((Bool)⊕((List UInt8)))):=[⟨Ex.ret,⟨[.any,.bool],[]⟩,fun x=>.inl x.1.2.1⟩,⟨(Ex.exit 0),⟨[.str,.any],[]⟩,fun x=>.inr (x.1.1)⟩]
def acK:bE K:=bH D false 75 0 [0,7,8] [0,2] rA (fun x=>M.tq x.1.1 x.1.2.1 ah x.1.2.2.1) ar6
def Iw(m:(List UInt8)->Option Bool):aE K:=cB 39 eZ (fun x=>m x.1.1)
def IJ:Cx K:=bg [] [] [(2,acK)]
theorem acL:aN IJ:=aV aL _ ay
theorem ar8:bF IJ (bp (bD Tryz.f39) 0) acK:=lk (cx:=IJ) (sh:=rA) (run:=fun n x=>M.tq x.1.1 x.1.2.1 n x.1.2.2.1) (bG:=ar7) acL (fun m x=>by kernel_rfl) (ae ⟨cO,fun _ _ _=>rfl⟩ (ae ⟨bJ,fun _ _ _=>rfl⟩ ay))
theorem OB:au (Iw (M.pK)):=aS (cx:=IJ) true acL Tryz.func39 (hl1 ar8) ⟨zs0,fun x=>x.1.1⟩ (fun x=>by kernel_rfl)
def ar9(y:Int⊕((List UInt8)×Int×Int×Int)){R:Type}(k:KT R):R:=match y with|.inl a0=>kk k Ex.ret abI (((),((),((),((),(a0,()))))),())|.inr a1=>kk k (Ex.exit 0) abJ ((a1.1,(a1.2.1,(a1.2.2.1,(a1.2.2.2,((),()))))),())
def asa:List (cn K ((Int)⊕((List UInt8)×Int×Int×Int))):=[⟨Ex.ret,abI,fun x=>.inl x.1.2.2.2.2.1⟩,⟨(Ex.exit 0),abJ,fun x=>.inr ((x.1.1,x.1.2.1,x.1.2.2.1,x.1.2.2.2.1))⟩]
def acM:bE K:=bH D false 71 0 [0,3,4,5,6] [0,3,4,5,2] abK (fun x=>M.m6 x.1.1 ah x.1.2.1 x.1.2.2.1 x.1.2.2.2.1 x.1.2.2.2.2.1) ar9
def wb(m:Int->Option ((List UInt8))):aE K:=cS 88 zs2 (fun x=>m x.1.1)
def acN(na:Int->Option ((List UInt8))):Cx K:=bg [(88,.plain)] [wb na] []
theorem asb(na:Int->Option ((List UInt8)))(OL:au (wb na)):aN (acN na):=aV aL _ (ae OL ay)
theorem asc(na:Int->Option ((List UInt8)))(OL:au (wb na)):au (wb (M.yj na)):=fR (cx:=acN na) (fz:=true) aL (asb na OL) fP ⟨Tryz.func88,by kernel_rfl⟩ hq ⟨eZ,fun x=>x.1.1⟩ (fun x=>rfl) (fun x=>by kernel_rfl)
theorem acO:∀n,au (wb (M.pL n))|0=>nE fun _=>rfl|n+1=>asc (M.pL n) (acO n)
theorem ase:au (wb (M.vA)):=acO ah
def acP(m:Int->Option ((List UInt8))):aE K:=cS 68 zs2 (fun x=>m x.1.1)
def acQ:Cx K:=bg [(88,.plain)] [wb M.vA] []
theorem asf:aN acQ:=aV aL _ (ae ase ay)
theorem asg:au (acP (M.BR)):=aS (cx:=acQ) true asf Tryz.func68 hq ⟨eZ,fun x=>x.1.1⟩ (fun x=>by kernel_rfl)
def acR(m:(List UInt8)->Option Int):aE K:=cI 49 eZ (fun x=>m x.1.1)
def IK:Cx K:=bg [(29,.plain),(68,.plain)] [yt M.yu,acP M.BR] [(3,acM)]
theorem acS:aN IK:=aV aL _ (ae BU (ae asg ay))
theorem ash:bF IK (bp (bD Tryz.f49) 0) acM:=lk (cx:=IK) (sh:=abK) (run:=fun n x=>M.m6 x.1.1 n x.1.2.1 x.1.2.2.1 x.1.2.2.2.1 x.1.2.2.2.2.1) (bG:=asa) acS (fun m x=>by kernel_rfl) (ae ⟨cO,fun _ _ _=>rfl⟩ (ae ⟨bJ,fun _ _ _=>rfl⟩ ay))
theorem asi:au (acR (M.nY)):=aS (cx:=IK) true acS Tryz.func49 (hl1 ash) ⟨zs2,fun x=>x.1.1⟩ (fun x=>by kernel_rfl)
def Oy(m:(List UInt8)->Option Bool):aE K:=cB 31 eZ (fun x=>m x.1.1)
def Ii:Cx K:=bg [(49,.plain)] [acR M.nY] []
theorem Oq:aN Ii:=aV aL _ (ae asi ay)
theorem abd:au (Oy (M.vB)):=aS (cx:=Ii) true Oq Tryz.func31 hq ⟨zs0,fun x=>x.1.1⟩ (fun x=>by kernel_rfl)
def asj(y:(Int×Bool)⊕Int){R:Type}(k:KT R):R:=match y with|.inl a0=>kk k Ex.ret ⟨[.any,iq0,.bool],[]⟩ (((),(a0.1,(a0.2,()))),())|.inr a1=>kk k (Ex.exit 0) ⟨[iq0,.any,.any],[]⟩ ((a1,((),((),()))),())
def asl:List (cn K ((Int×Bool)⊕Int)):=[⟨Ex.ret,⟨[.any,iq0,.bool],[]⟩,fun x=>.inl (x.1.2.1,x.1.2.2.1)⟩,⟨(Ex.exit 0),⟨[iq0,.any,.any],[]⟩,fun x=>.inr (x.1.1)⟩]
def acT:bE K:=bH D false 39 0 [5,15,16,17] [5,2,3] abL (fun x=>M.lS x.1.2.1 x.1.2.2.1 ah x.1.1 x.1.2.2.2.1) asj
def Ou(m:(List UInt8)->Option (Int×Bool)):aE K:={f:=57,sh:=eZ,R:=Int×Bool,run:=fun x=>m x.1.1,dflt:=default,out:=fun r=>(Sh.enc D (.bz [iq0,.bool]) (r.1,(r.2,())),aY.encs D [] ())}
def IL:Cx K:=bg [(73,.jG),(74,.plain),(37,.plain)] [ME M.strings_Split,MD M.mG,BV M.BW] [(6,acT)]
theorem acU:aN IL:=aV aL _ (ae aiZ (ae aiY (ae GL ay)))
theorem asn:bF IL (bp (bD Tryz.f57) 0) acT:=lk (cx:=IL) (sh:=abL) (run:=fun n x=>M.lS x.1.2.1 x.1.2.2.1 n x.1.1 x.1.2.2.2.1) (bG:=asl) acU (fun m x=>by kernel_rfl) (ae ⟨cO,fun _ _ _=>rfl⟩ (ae ⟨bJ,fun _ _ _=>rfl⟩ ay))
theorem aaP:au (Ou (M.m5)):=aS (cx:=IL) true acU Tryz.func57 (hl1 asn) ⟨⟨[.bz [iq0,.bool]],[]⟩,fun x=>(x.1.1.1,x.1.1.2.1)⟩ (fun x=>by kernel_rfl)
def Im(m:(List UInt8)->Option Bool):aE K:=cB 40 eZ (fun x=>m x.1.1)
def Ot:Cx K:=bg [(57,.plain)] [Ou M.m5] []
theorem aaI:aN Ot:=aV aL _ (ae aaP ay)
theorem Ov:au (Im (M.rk)):=aS (cx:=Ot) true aaI Tryz.func40 hq ⟨zs0,fun x=>x.1.1⟩ (fun x=>by kernel_rfl)
def Ic(y:Int⊕Unit){R:Type}(k:KT R):R:=match y with|.inl a0=>kk k Ex.ret zs2 ((a0,()),())|.inr a1=>kk k (Ex.exit 0) zs1 (((),()),())
def Ie:List (cn K ((Int)⊕Unit)):=[⟨Ex.ret,zs2,fun x=>.inl x.1.1⟩,⟨(Ex.exit 0),zs1,fun x=>.inr (())⟩]
def acV:bE K:=bH D false 19 0 [0,1,7,8] [4] abM (fun x=>M.uZ x.1.1 x.1.2.1 x.1.2.2.1 ah x.1.2.2.2.1) Ic
def OM(m:(List (List UInt8))->(List UInt8)->Option Int):aE K:=cI 265 ⟨[.an U.str,.str],[]⟩ (fun x=>m x.1.1 x.1.2.1)
def IM:Cx K:=bg [] [] [(2,acV)]
theorem acW:aN IM:=aV aL _ ay
theorem aso:bF IM (bp (bD Tryz.f265) 0) acV:=lk (cx:=IM) (sh:=abM) (run:=fun n x=>M.uZ x.1.1 x.1.2.1 x.1.2.2.1 n x.1.2.2.2.1) (bG:=Ie) acW (fun m x=>by kernel_rfl) (ae ⟨cO,fun _ _ _=>rfl⟩ (ae ⟨bJ,fun _ _ _=>rfl⟩ ay))
theorem acX:au (OM (M.uY)):=aS (cx:=IM) true acW Tryz.func265 (hl1 aso) ⟨zs2,fun x=>x.1.1⟩ (fun x=>by kernel_rfl)
def acY(m:(List (List UInt8))->(List UInt8)->Option Bool):aE K:=cB 275 ⟨[.an U.str,.str],[]⟩ (fun x=>m x.1.1 x.1.2.1)
def acZ:Cx K:=bg [(265,.plain)] [OM M.uY] []
theorem asq:aN acZ:=aV aL _ (ae acX ay)
theorem asr:au (acY (M.E6)):=aS (cx:=acZ) true asq Tryz.func275 hq ⟨zs0,fun x=>x.1.1⟩ (fun x=>by kernel_rfl)
def ass(y:(List (List UInt8))){R:Type}(k:KT R):R:=match y with|a0=>kk k (Ex.exit 0) ⟨[.own 1],[.dead,.arr U.str]⟩ (((),()),((),(a0,())))
def ast:List (cn K ((List (List UInt8)))):=[⟨(Ex.exit 0),⟨[.own 1],[.dead,.arr U.str]⟩,fun x=>x.2.2.1⟩]
def ac0:bE K:=bH D false 22 1 [0,3,4] [3] abN (fun x=>M.tZ x.1.1 ah x.1.2.2.1 x.2.2.1) ass
def YR(m:(List (List UInt8))->Option ((List (List UInt8)))):aE K:={f:=162,sh:=yn,R:=(List (List UInt8)),run:=fun x=>m x.1.1,dflt:=default,out:=fun r=>(Sh.enc D (.own 0) (),aY.encs D [.arr U.str] (r,()))}
def IN:Cx K:={eM with mode:=ef .plain [],ik:=[[some U.str]],deep:=fun c=>eI (D.cells c (K.zero c)),call:=callOf D [],loop:=dR [(3,ac0)]}
theorem ac1:aN IN:=aV aL _ ay
theorem asu:bF IN (bp (bD Tryz.f162) 0) ac0:=lk (cx:=IN) (sh:=abN) (run:=fun n x=>M.tZ x.1.1 n x.1.2.2.1 x.2.2.1) (bG:=ast) ac1 (fun m x=>by kernel_rfl) (ae ⟨bJ,fun _ _ _=>rfl⟩ ay)
theorem apU:au (YR (M.CH)):=aS (cx:=IN) false ac1 Tryz.func162 (hl1 asu) ⟨⟨[.own 0],[.arr U.str]⟩,fun x=>x.2.1⟩ (fun x=>by kernel_rfl)
def asv(y:(List UInt8)×Int×Int){R:Type}(k:KT R):R:=match y with|a0=>kk k (Ex.exit 3) rA ((a0.1,(a0.2.1,(a0.2.2,()))),())
def asw:List (cn K ((List UInt8)×Int×Int)):=[⟨(Ex.exit 3),rA,fun x=>(x.1.1,x.1.2.1,x.1.2.2.1)⟩]
def ac2:bE K:=bH D false 63 0 [0,1,2] [0,1,2] rA (fun x=>M.xe x.1.1 x.1.2.2.1 ah x.1.2.1) asv
def asx(y:(Int×Int)⊕(Int×Int)){R:Type}(k:KT R):R:=match y with|.inl a0=>kk k Ex.ret abO (((),((),(a0.1,(a0.2,())))),())|.inr a1=>kk k (Ex.exit 0) abP ((a1.1,(a1.2,((),((),())))),())
def asy:List (cn K ((Int×Int)⊕(Int×Int))):=[⟨Ex.ret,abO,fun x=>.inl (x.1.2.2.1,x.1.2.2.2.1)⟩,⟨(Ex.exit 0),abP,fun x=>.inr ((x.1.1,x.1.2.1))⟩]
def ac3:bE K:=bH D false 63 0 [0,1,2] [1,2,6,7] rA (fun x=>M.qB ah x.1.1 x.1.2.1 x.1.2.2.1) asx
def ac4(m:(List UInt8)->Int->Int->Option (Int×Int)):aE K:={f:=104,sh:=rA,R:=Int×Int,run:=fun x=>m x.1.1 x.1.2.1 x.1.2.2.1,dflt:=default,out:=fun r=>(Sh.enc D (.bz [iq0,iq0]) (r.1,(r.2,())),aY.encs D [] ())}
def yM:Cx K:=bg [] [] [(9,ac2),(1,ac3)]
theorem ON:aN yM:=aV aL _ ay
theorem asz:bF yM (bp (bp (bD Tryz.f104) 0) 0) ac2:=lk (cx:=yM) (sh:=rA) (run:=fun n x=>M.xe x.1.1 x.1.2.2.1 n x.1.2.1) (bG:=asw) ON (fun m x=>by kernel_rfl) (ae ⟨bJ,fun _ _ _=>rfl⟩ ay)
theorem asA:bF yM (bp (bD Tryz.f104) 0) ac3:=lk (cx:=yM) (sh:=rA) (run:=fun n x=>M.qB n x.1.1 x.1.2.1 x.1.2.2.1) (bG:=asy) ON (fun m x=>by kernel_rfl) (ae ⟨cO,fun _ _ _=>rfl⟩ (ae ⟨bJ,fun _ _ _=>rfl⟩ ay)) (hl:=(afH 1 (by kernel_rfl) (ju (.mk (by kernel_rfl) asz))))
theorem asB:au (ac4 (M.uT)):=aS (cx:=yM) true ON Tryz.func104 (hl1 asA) ⟨Ij,fun x=>(x.1.1.1,x.1.1.2.1)⟩ (fun x=>by kernel_rfl)
def OO(m:Int->Option Bool):aE K:=cB 147 yJ (fun x=>m x.1.1)
theorem ac5:au (OO (M.OP)):=aS (cx:=fy) true fG Tryz.func147 hq ⟨zs0,fun x=>x.1.1⟩ (fun x=>by kernel_rfl)
def IP(m:Int->Option Bool):aE K:=cB 149 yJ (fun x=>m x.1.1)
theorem OQ:au (IP (M.IQ)):=aS (cx:=fy) true fG Tryz.func149 hq ⟨zs0,fun x=>x.1.1⟩ (fun x=>by kernel_rfl)
def ac6:bE K:=bH D false 53 0 [0,1] [1,4] rz (fun x=>M.uV x.1.1 ah x.1.2.1) oh
def ac7(m:(List UInt8)->Int->Option Int):aE K:=cI 148 rz (fun x=>m x.1.1 x.1.2.1)
def IS:Cx K:=bg [(147,.plain),(149,.plain)] [OO M.OP,IP M.IQ] [(1,ac6)]
theorem ac8:aN IS:=aV aL _ (ae ac5 (ae OQ ay))
theorem asC:bF IS (bp (bD Tryz.f148) 0) ac6:=lk (cx:=IS) (sh:=rz) (run:=fun n x=>M.uV x.1.1 n x.1.2.1) (bG:=oi) ac8 (fun m x=>by kernel_rfl) (ae ⟨cO,fun _ _ _=>rfl⟩ (ae ⟨bJ,fun _ _ _=>rfl⟩ ay))
theorem asD:au (ac7 (M.zP)):=aS (cx:=IS) true ac8 Tryz.func148 (hl1 asC) ⟨zs2,fun x=>x.1.1⟩ (fun x=>by kernel_rfl)
def ac9:bE K:=bH D false 39 0 [0,1] [1,4] rz (fun x=>M.uW x.1.1 ah x.1.2.1) oh
def ada(m:(List UInt8)->Int->Option Int):aE K:=cI 150 rz (fun x=>m x.1.1 x.1.2.1)
def IT:Cx K:=bg [(149,.plain)] [IP M.IQ] [(1,ac9)]
theorem adb:aN IT:=aV aL _ (ae OQ ay)
theorem asE:bF IT (bp (bD Tryz.f150) 0) ac9:=lk (cx:=IT) (sh:=rz) (run:=fun n x=>M.uW x.1.1 n x.1.2.1) (bG:=oi) adb (fun m x=>by kernel_rfl) (ae ⟨cO,fun _ _ _=>rfl⟩ (ae ⟨bJ,fun _ _ _=>rfl⟩ ay))
theorem asF:au (ada (M.zQ)):=aS (cx:=IT) true adb Tryz.func150 (hl1 asE) ⟨zs2,fun x=>x.1.1⟩ (fun x=>by kernel_rfl)
def ade:bE K:=bH D false 16 0 [0,3,4] [2] ⟨[.int .u8,.str,iq0],[]⟩ (fun x=>M.sq x.1.1 x.1.2.1 ah x.1.2.2.1) iU
def adf(m:Int->Option Bool):aE K:=cB 151 yJ (fun x=>m x.1.1)
def IU:Cx K:=bg [] [] [(3,ade)]
theorem adg:aN IU:=aV aL _ ay
theorem asG:bF IU (bp (bD Tryz.f151) 0) ade:=lk (cx:=IU) (sh:=⟨[.int .u8,.str,iq0],[]⟩) (run:=fun n x=>M.sq x.1.1 x.1.2.1 n x.1.2.2.1) (bG:=iV) adg (fun m x=>by kernel_rfl) (ae ⟨cO,fun _ _ _=>rfl⟩ (ae ⟨bJ,fun _ _ _=>rfl⟩ ay))
theorem asH:au (adf (M.zS)):=aS (cx:=IU) true adg Tryz.func151 (hl1 asG) ⟨zs0,fun x=>x.1.1⟩ (fun x=>by kernel_rfl)
def adh(m:(List UInt8)->Int->Option (M.aj×Int)):aE K:={f:=105,sh:=rz,R:=M.aj×Int,run:=fun x=>m x.1.1 x.1.2.1,dflt:=default,out:=fun r=>(Sh.enc D (.bz [.el U.Token,iq0]) (r.1,(r.2,())),aY.encs D [] ())}
def adi:Cx K:=bg [(147,.plain),(148,.plain),(149,.plain),(150,.plain),(151,.plain)] [OO M.OP,ac7 M.zP,IP M.IQ,ada M.zQ,adf M.zS] []
theorem asI:aN adi:=aV aL _ (ae ac5 (ae asD (ae OQ (ae asF (ae asH ay)))))
theorem asJ:au (adh (M.zU)):=aS (cx:=adi) true asI Tryz.func105 hq ⟨⟨[.bz [.el U.Token,iq0]],[]⟩,fun x=>(x.1.1.1,x.1.1.2.1)⟩ (fun x=>by kernel_rfl)
def asK(y:(Int×Int×(List M.aj))⊕(Int×(List M.aj))){R:Type}(k:KT R):R:=match y with|.inl a0=>kk k Ex.ret abQ (((),((),((),(a0.1,(a0.2.1,()))))),((),((),(a0.2.2,()))))|.inr a1=>kk k (Ex.exit 0) abR (((),(a1.1,((),((),((),()))))),((),(a1.2,())))
def asL:List (cn K ((Int×Int×(List M.aj))⊕(Int×(List M.aj)))):=[⟨Ex.ret,abQ,fun x=>.inl (x.1.2.2.2.1,x.1.2.2.2.2.1,x.2.2.2.1)⟩,⟨(Ex.exit 0),abR,fun x=>.inr ((x.1.2.1,x.2.2.1))⟩]
def adk:bE K:=bH D false 54 1 [0,5,6,7] [5,7,2,3,4] abS (fun x=>M.xj x.1.1 ah x.1.2.2.1 x.1.2.2.2.1 x.2.2.1) asK
def VB(m:(List UInt8)->Option ((List M.aj)×Int×Int)):aE K:={f:=81,sh:=eZ,R:=(List M.aj)×Int×Int,run:=fun x=>m x.1.1,dflt:=default,out:=fun r=>(Sh.enc D (.bz [.an U.Token,iq0,iq0]) (r.1,(r.2.1,(r.2.2,()))),aY.encs D [] ())}
def IV:Cx K:=bg [(104,.plain),(105,.plain)] [ac4 M.uT,adh M.zU] [(5,adk)]
theorem adl:aN IV:=aV aL _ (ae asB (ae asJ ay))
theorem asM:bF IV (bp (bD Tryz.f81) 0) adk:=lk (cx:=IV) (sh:=abS) (run:=fun n x=>M.xj x.1.1 n x.1.2.2.1 x.1.2.2.2.1 x.2.2.1) (bG:=asL) adl (fun m x=>by kernel_rfl) (ae ⟨cO,fun _ _ _=>rfl⟩ (ae ⟨bJ,fun _ _ _=>rfl⟩ ay))
theorem amQ:au (VB (M.zV)):=aS (cx:=IV) true adl Tryz.func81 (hl1 asM) ⟨abT,fun x=>(x.1.1.1,x.1.1.2.1,x.1.1.2.2.1)⟩ (fun x=>by kernel_rfl)
def adm(m:(List UInt8)->(List UInt8)->Option Bool):aE K:=cB 260 vY (fun x=>m x.1.1 x.1.2.1)
theorem asN:au (adm (M.EV)):=aS (cx:=fy) true fG Tryz.func260 hq ⟨zs0,fun x=>x.1.1⟩ (fun x=>by kernel_rfl)
def OR(m:(List UInt8)->(List UInt8)->Option Bool):aE K:=cB 238 vY (fun x=>m x.1.1 x.1.2.1)
def adn:Cx K:=bg [(260,.plain)] [adm M.EV] []
theorem asO:aN adn:=aV aL _ (ae asN ay)
theorem ado:au (OR (M.strings_HasPrefix)):=aS (cx:=adn) true asO Tryz.func238 hq ⟨zs0,fun x=>x.1.1⟩ (fun x=>by kernel_rfl)
def asP(y:(List UInt8)×Int×Int×(List M.aj)){R:Type}(k:KT R):R:=match y with|a0=>kk k (Ex.exit 3) yK (((),()),((a0.1,(a0.2.1,(a0.2.2.1,((),())))),((),(a0.2.2.2,()))))
def asQ:List (cn K ((List UInt8)×Int×Int×(List M.aj))):=[⟨(Ex.exit 3),yK,fun x=>(x.2.1.1,x.2.1.2.1,x.2.1.2.2.1,x.2.2.2.1)⟩]
def adp:bE K:=bH D false 89 2 [0] [0] yK (fun x=>M.xf x.2.1.1 x.2.1.2.2.1 x.2.2.2.1 ah x.2.1.2.1) asP
def asT(y:((List UInt8)×Int×Int×(List M.aj))⊕((List UInt8)×Int×Int×(List M.aj))){R:Type}(k:KT R):R:=match y with|.inl a0=>kk k Ex.ret Iy ((),((a0.1,(a0.2.1,(a0.2.2.1,((),())))),((),(a0.2.2.2,()))))|.inr a1=>kk k (Ex.exit 0) Iy ((),((a1.1,(a1.2.1,(a1.2.2.1,((),())))),((),(a1.2.2.2,()))))
def asU:List (cn K (((List UInt8)×Int×Int×(List M.aj))⊕((List UInt8)×Int×Int×(List M.aj)))):=[⟨Ex.ret,Iy,fun x=>.inl (x.2.1.1,x.2.1.2.1,x.2.1.2.2.1,x.2.2.2.1)⟩,⟨(Ex.exit 0),Iy,fun x=>.inr ((x.2.1.1,x.2.1.2.1,x.2.1.2.2.1,x.2.2.2.1))⟩]
def adq:bE K:=bH D false 89 2 [0] [] yK (fun x=>M.qD ah x.2.1.1 x.2.1.2.1 x.2.1.2.2.1 x.2.2.2.1) asT
def adr(m:(List UInt8)->Int->Int->(List M.aj)->Option ((List UInt8)×Int×Int×(List M.aj))):aE K:={f:=205,sh:=⟨[.ptr 0 0],[.box [.str,iq0,iq0,.own 1],.arr U.Token]⟩,R:=(List UInt8)×Int×Int×(List M.aj),run:=fun x=>m x.2.1.1 x.2.1.2.1 x.2.1.2.2.1 x.2.2.1,dflt:=default,out:=fun r=>(Sh.enc D (.bz []) (),aY.encs D [.box [.str,iq0,iq0,.own 2],.dead,.arr U.Token] ((r.1,(r.2.1,(r.2.2.1,((),())))),((),(r.2.2.2,()))))}
def yN:Cx K:={eM with mode:=ef .plain [(238,.plain)],mv:=true,call:=callOf D [OR M.strings_HasPrefix],loop:=dR [(8,adp),(0,adq)]}
theorem OS:aN yN:=aV aL _ (ae ado ay)
theorem asV:bF yN (bp (bp (bD Tryz.f205) 0) 0) adp:=lk (cx:=yN) (sh:=yK) (run:=fun n x=>M.xf x.2.1.1 x.2.1.2.2.1 x.2.2.2.1 n x.2.1.2.1) (bG:=asQ) OS (fun m x=>by kernel_rfl) (ae ⟨bJ,fun _ _ _=>rfl⟩ ay)
theorem asW:bF yN (bp (bD Tryz.f205) 0) adq:=lk (cx:=yN) (sh:=yK) (run:=fun n x=>M.qD n x.2.1.1 x.2.1.2.1 x.2.1.2.2.1 x.2.2.2.1) (bG:=asU) OS (fun m x=>by kernel_rfl) (ae ⟨cO,fun _ _ _=>rfl⟩ (ae ⟨bJ,fun _ _ _=>rfl⟩ ay)) (hl:=(afH 1 (by kernel_rfl) (ju (.mk (by kernel_rfl) asV))))
theorem asX:au (adr (M.uU)):=aS (cx:=yN) true OS Tryz.func205 (hl1 asW) ⟨⟨[.bz []],[.box [.str,iq0,iq0,.own 2],.dead,.arr U.Token]⟩,fun x=>(x.2.1.1,x.2.1.2.1,x.2.1.2.2.1,x.2.2.2.1)⟩ (fun x=>by kernel_rfl)
def ads(m:M.iv->Int->Option Int):aE K:={f:=261,sh:=⟨[.rp U.mg 0,iq0],[]⟩,R:=Int,run:=fun x=>m x.1.1 x.1.2.1,dflt:=default,out:=fun r=>(Sh.enc D (.int .u8) r,aY.encs D [] ())}
theorem asY:au (ads (M.zR)):=aS (cx:=fy) true fG Tryz.func261 hq ⟨yJ,fun x=>x.1.1⟩ (fun x=>by kernel_rfl)
def asZ(y:Int){R:Type}(k:KT R):R:=match y with|a0=>kk k (Ex.exit 0) zs2 ((a0,()),())
def as1:List (cn K Int):=[⟨(Ex.exit 0),zs2,fun x=>x.1.1⟩]
def adt:bE K:=bH D false 79 0 [0,1,5] [1] ⟨[.rp U.mg 0,iq0,.bool],[]⟩ (fun x=>M.xh x.1.1 x.1.2.2.1 ah x.1.2.1) asZ
def adu(m:M.iv->Int->Option Int):aE K:=cI 240 ⟨[.rp U.mg 0,iq0],[]⟩ (fun x=>m x.1.1 x.1.2.1)
def IW:Cx K:=bg [(239,.plain),(261,.plain),(241,.plain)] [OH M.OI,ads M.zR,OJ M.OK] [(3,adt)]
theorem adv:aN IW:=aV aL _ (ae acB (ae asY (ae acC ay)))
theorem as2:bF IW (bp (bD Tryz.f240) 0) adt:=lk (cx:=IW) (sh:=⟨[.rp U.mg 0,iq0,.bool],[]⟩) (run:=fun n x=>M.xh x.1.1 x.1.2.2.1 n x.1.2.1) (bG:=as1) adv (fun m x=>by kernel_rfl) (ae ⟨bJ,fun _ _ _=>rfl⟩ ay)
theorem as3:au (adu (M.xi)):=aS (cx:=IW) true adv Tryz.func240 (hl1 as2) ⟨zs2,fun x=>x.1.1⟩ (fun x=>by kernel_rfl)
def adw(m:M.iv->Option (Int×Int)):aE K:={f:=206,sh:=⟨[.rp U.mg 0],[]⟩,R:=Int×Int,run:=fun x=>m x.1.1,dflt:=default,out:=fun r=>(Sh.enc D (.bz [iq0,iq0]) (r.1,(r.2,())),aY.encs D [] ())}
def adx:Cx K:=bg [(239,.plain),(240,.plain),(241,.plain),(238,.plain),(242,.plain)] [OH M.OI,adu M.xi,OJ M.OK,OR M.strings_HasPrefix,MA M.strings_IndexByte] []
theorem as4:aN adx:=aV aL _ (ae acB (ae as3 (ae acC (ae ado (ae aiD ay)))))
theorem as5:au (adw (M.zT)):=aS (cx:=adx) true as4 Tryz.func206 hq ⟨Ij,fun x=>(x.1.1.1,x.1.1.2.1)⟩ (fun x=>by kernel_rfl)
def as6(y:(Int×Int)⊕((List UInt8)×Int×Int×(List M.aj))){R:Type}(k:KT R):R:=match y with|.inl a0=>kk k Ex.ret abU (((),((),(a0.1,(a0.2,())))),((),((),((),()))))|.inr a1=>kk k (Ex.exit 0) abV (((),((),((),((),())))),((a1.1,(a1.2.1,(a1.2.2.1,((),())))),((),(a1.2.2.2,()))))
def as7:List (cn K ((Int×Int)⊕((List UInt8)×Int×Int×(List M.aj)))):=[⟨Ex.ret,abU,fun x=>.inl (x.1.2.2.1,x.1.2.2.2.1)⟩,⟨(Ex.exit 0),abV,fun x=>.inr ((x.2.1.1,x.2.1.2.1,x.2.1.2.2.1,x.2.2.2.1))⟩]
def ady:bE K:=bH D false 85 2 [0,5] [5,2,3,4] abW (fun x=>M.xk x.1.1 ah x.2.1.1 x.2.1.2.1 x.2.1.2.2.1 x.2.2.2.1) as6
def adz(m:(List UInt8)->Option ((List M.aj)×Int×Int)):aE K:={f:=169,sh:=eZ,R:=(List M.aj)×Int×Int,run:=fun x=>m x.1.1,dflt:=default,out:=fun r=>(Sh.enc D (.bz [.an U.Token,iq0,iq0]) (r.1,(r.2.1,(r.2.2,()))),aY.encs D [] ())}
def IX:Cx K:=bg [(205,.bh),(206,.plain)] [adr M.uU,adw M.zT] [(5,ady)]
theorem adA:aN IX:=aV aL _ (ae asX (ae as5 ay))
theorem as8:bF IX (bp (bD Tryz.f169) 0) ady:=lk (cx:=IX) (sh:=abW) (run:=fun n x=>M.xk x.1.1 n x.2.1.1 x.2.1.2.1 x.2.1.2.2.1 x.2.2.2.1) (bG:=as7) adA (fun m x=>by kernel_rfl) (ae ⟨cO,fun _ _ _=>rfl⟩ (ae ⟨bJ,fun _ _ _=>rfl⟩ ay))
theorem as9:au (adz (M.zW)):=aS (cx:=IX) true adA Tryz.func169 (hl1 as8) ⟨abT,fun x=>(x.1.1.1,x.1.1.2.1,x.1.1.2.2.1)⟩ (fun x=>by kernel_rfl)
def vG(m:M.aC->Option (M.aj×M.aC)):aE K:={f:=83,sh:=m9,R:=M.aj×M.aC,run:=fun x=>m x.2.1,dflt:=default,out:=fun r=>(Sh.enc D (.el U.Token) r.1,aY.encs D [.el U.dm] (r.2,()))}
theorem yq:au (vG (M.kS)):=aS (cx:=fy) true fG Tryz.func83 hq ⟨⟨[.el U.Token],[.el U.dm]⟩,fun x=>(x.1.1,x.2.1)⟩ (fun x=>by kernel_rfl)
def Ox(m:(List UInt8)->Option Bool):aE K:=cB 30 eZ (fun x=>m x.1.1)
def adB:Cx K:=bg [(48,.plain)] [acI M.BP] []
theorem ata:aN adB:=aV aL _ (ae ar5 ay)
theorem abb:au (Ox (M.mI)):=aS (cx:=adB) true ata Tryz.func30 hq ⟨zs0,fun x=>x.1.1⟩ (fun x=>by kernel_rfl)
def IY(m:M.aC->Option (M.aC)):aE K:={f:=152,sh:=m9,R:=M.aC,run:=fun x=>m x.2.1,dflt:=default,out:=fun r=>(Sh.enc D (.bz []) (),aY.encs D [.el U.dm] (r,()))}
theorem OT:au (IY (M.qE)):=aS (cx:=fy) true fG Tryz.func152 hq ⟨OC,fun x=>x.2.1⟩ (fun x=>by kernel_rfl)
def pT(m:M.aC->Option ((List UInt8)×M.aC)):aE K:={f:=107,sh:=m9,R:=(List UInt8)×M.aC,run:=fun x=>m x.2.1,dflt:=default,out:=fun r=>(Sh.enc D (.str) r.1,aY.encs D [.el U.dm] (r.2,()))}
def adC:Cx K:=bg [(83,.bh),(30,.plain),(152,.bh)] [vG M.kS,Ox M.mI,IY M.qE] []
theorem atb:aN adC:=aV aL _ (ae yq (ae abb (ae OT ay)))
theorem rB:au (pT (M.fU)):=aS (cx:=adC) true atb Tryz.func107 hq ⟨OD,fun x=>(x.1.1,x.2.1)⟩ (fun x=>by kernel_rfl)
def N4(m:Option ((List (List UInt8)))):aE K:={f:=157,sh:=⟨[],[]⟩,R:=(List (List UInt8)),run:=fun x=>m,dflt:=default,out:=fun r=>(Sh.enc D (.own 0) (),aY.encs D [.arr U.str] (r,()))}
def adD:Cx K:={eM with mode:=ef .plain [],ik:=[[some U.str]],call:=callOf D [],loop:=dR []}
theorem atc:aN adD:=aV aL _ ay
theorem VS:au (N4 (M.jw)):=aS (cx:=adD) false atc Tryz.func157 hq ⟨⟨[.own 0],[.arr U.str]⟩,fun x=>x.2.1⟩ (fun x=>by kernel_rfl)
def N5(m:Option ((List (List UInt8)))):aE K:={f:=158,sh:=⟨[],[]⟩,R:=(List (List UInt8)),run:=fun x=>m,dflt:=default,out:=fun r=>(Sh.enc D (.an U.str) r,aY.encs D [] ())}
theorem VT:au (N5 (M.jx)):=aS (cx:=fy) true fG Tryz.func158 hq ⟨yn,fun x=>x.1.1⟩ (fun x=>by kernel_rfl)
def atd(y:Int⊕Unit){R:Type}(k:KT R):R:=match y with|.inl a0=>kk k Ex.ret ⟨[iq0],[.dead]⟩ ((a0,()),((),()))|.inr a1=>kk k (Ex.exit 0) Ha (((),()),((),()))
def ate:List (cn K ((Int)⊕Unit)):=[⟨Ex.ret,⟨[iq0],[.dead]⟩,fun x=>.inl x.1.1⟩,⟨(Ex.exit 0),Ha,fun x=>.inr (())⟩]
def adE:bE K:=bH D false 22 1 [0,3,4] [2] abX (fun x=>M.sw x.1.1 x.2.2.1 ah x.1.2.2.1) atd
def OU(m:(List UInt8)->Option Int):aE K:=cI 233 eZ (fun x=>m x.1.1)
def IZ:Cx K:=bg [(157,.fresh),(158,.jG)] [N4 M.jw,N5 M.jx] [(3,adE)]
theorem adF:aN IZ:=aV aL _ (ae VS (ae VT ay))
theorem atf:bF IZ (bp (bD Tryz.f233) 0) adE:=lk (cx:=IZ) (sh:=abX) (run:=fun n x=>M.sw x.1.1 x.2.2.1 n x.1.2.2.1) (bG:=ate) adF (fun m x=>by kernel_rfl) (ae ⟨cO,fun _ _ _=>rfl⟩ (ae ⟨bJ,fun _ _ _=>rfl⟩ ay))
theorem adG:au (OU (M.su)):=aS (cx:=IZ) true adF Tryz.func233 (hl1 atf) ⟨zs2,fun x=>x.1.1⟩ (fun x=>by kernel_rfl)
def adH(m:(List UInt8)->M.aC->Option (Bool×M.aC)):aE K:={f:=153,sh:=Iz,R:=Bool×M.aC,run:=fun x=>m x.1.2.1 x.2.1,dflt:=default,out:=fun r=>(Sh.enc D (.bool) r.1,aY.encs D [.el U.dm] (r.2,()))}
def adI:Cx K:=bg [(83,.bh)] [vG M.kS] []
theorem atg:aN adI:=aV aL _ (ae yq ay)
theorem ath:au (adH (M.zY)):=aS (cx:=adI) true atg Tryz.func153 hq ⟨⟨[.bool],[.el U.dm]⟩,fun x=>(x.1.1,x.2.1)⟩ (fun x=>by kernel_rfl)
def mi(m:(List UInt8)->M.aC->Option (Bool×M.aC)):aE K:={f:=109,sh:=Iz,R:=Bool×M.aC,run:=fun x=>m x.1.2.1 x.2.1,dflt:=default,out:=fun r=>(Sh.enc D (.bool) r.1,aY.encs D [.el U.dm] (r.2,()))}
def adJ:Cx K:=bg [(153,.bh),(152,.bh)] [adH M.zY,IY M.qE] []
theorem ati:aN adJ:=aV aL _ (ae ath (ae OT ay))
theorem nb:au (mi (M.dI)):=aS (cx:=adJ) true ati Tryz.func109 hq ⟨⟨[.bool],[.el U.dm]⟩,fun x=>(x.1.1,x.2.1)⟩ (fun x=>by kernel_rfl)
def nc(m:(List UInt8)->M.aC->Option (M.aC)):aE K:={f:=106,sh:=Iz,R:=M.aC,run:=fun x=>m x.1.2.1 x.2.1,dflt:=default,out:=fun r=>(Sh.enc D (.bz []) (),aY.encs D [.el U.dm] (r,()))}
def adK:Cx K:=bg [(109,.bh)] [mi M.dI] []
theorem atj:aN adK:=aV aL _ (ae nb ay)
theorem oo:au (nc (M.dE)):=aS (cx:=adK) true atj Tryz.func106 hq ⟨OC,fun x=>x.2.1⟩ (fun x=>by kernel_rfl)
def adL(m:Int->M.ar->Option ((List UInt8)×M.ar)):aE K:={f:=207,sh:=⟨[.ptr 0 0,iq0,.fn 39 []],[.el U.parser]⟩,R:=(List UInt8)×M.ar,run:=fun x=>m x.1.2.1 x.2.1,dflt:=default,out:=fun r=>(Sh.enc D (.str) r.1,aY.encs D [.el U.parser] (r.2,()))}
def adM:Cx K:=bg [(39,.plain)] [Iw M.pK] []
theorem atl:aN adM:=aV aL _ (ae OB ay)
theorem atm:au (adL (M.zZ)):=aS (cx:=adM) true atl Tryz.func207 hq ⟨yL,fun x=>(x.1.1,x.2.1)⟩ (fun x=>by kernel_rfl)
def rC(m:M.ar->Option ((List UInt8)×M.ar)):aE K:={f:=171,sh:=tY,R:=(List UInt8)×M.ar,run:=fun x=>m x.2.1,dflt:=default,out:=fun r=>(Sh.enc D (.str) r.1,aY.encs D [.el U.parser] (r.2,()))}
def adN:Cx K:=bg [(207,.bh)] [adL M.zZ] []
theorem atn:aN adN:=aV aL _ (ae atm ay)
theorem ua:au (rC (M.gA)):=aS (cx:=adN) true atn Tryz.func171 hq ⟨yL,fun x=>(x.1.1,x.2.1)⟩ (fun x=>by kernel_rfl)
def GK(m:Option ((List (List UInt8)))):aE K:={f:=201,sh:=⟨[],[]⟩,R:=(List (List UInt8)),run:=fun x=>m,dflt:=default,out:=fun r=>(Sh.enc D (.an U.str) r,aY.encs D [] ())}
theorem N7:au (GK (M.fN)):=aS (cx:=fy) true fG Tryz.func201 hq ⟨yn,fun x=>x.1.1⟩ (fun x=>by kernel_rfl)
def OV(m:(List UInt8)->Option Bool):aE K:=cB 264 eZ (fun x=>m x.1.1)
def adO:Cx K:=bg [(201,.jG),(275,.plain)] [GK M.fN,acY M.E6] []
theorem ato:aN adO:=aV aL _ (ae N7 (ae asr ay))
theorem adP:au (OV (M.qF)):=aS (cx:=adO) true ato Tryz.func264 hq ⟨zs0,fun x=>x.1.1⟩ (fun x=>by kernel_rfl)
def yO(m:(List UInt8)->M.ar->Option (Bool×M.ar)):aE K:={f:=208,sh:=IA,R:=Bool×M.ar,run:=fun x=>m x.1.2.1 x.2.1,dflt:=default,out:=fun r=>(Sh.enc D (.bool) r.1,aY.encs D [.el U.parser] (r.2,()))}
theorem Dm:au (yO (M.l9)):=aS (cx:=fy) true fG Tryz.func208 hq ⟨⟨[.bool],[.el U.parser]⟩,fun x=>(x.1.1,x.2.1)⟩ (fun x=>by kernel_rfl)
def mj(m:(List UInt8)->M.ar->Option (Bool×M.ar)):aE K:={f:=173,sh:=IA,R:=Bool×M.ar,run:=fun x=>m x.1.2.1 x.2.1,dflt:=default,out:=fun r=>(Sh.enc D (.bool) r.1,aY.encs D [.el U.parser] (r.2,()))}
def adQ:Cx K:=bg [(208,.bh)] [yO M.l9] []
theorem atp:aN adQ:=aV aL _ (ae Dm ay)
theorem nf:au (mj (M.eE)):=aS (cx:=adQ) true atp Tryz.func173 hq ⟨⟨[.bool],[.el U.parser]⟩,fun x=>(x.1.1,x.2.1)⟩ (fun x=>by kernel_rfl)
def pV(m:(List UInt8)->M.ar->Option (M.ar)):aE K:={f:=170,sh:=IA,R:=M.ar,run:=fun x=>m x.1.2.1 x.2.1,dflt:=default,out:=fun r=>(Sh.enc D (.bz []) (),aY.encs D [.el U.parser] (r,()))}
def adR:Cx K:=bg [(173,.bh)] [mj M.eE] []
theorem atq:aN adR:=aV aL _ (ae nf ay)
theorem rD:au (pV (M.dk)):=aS (cx:=adR) true atq Tryz.func170 hq ⟨⟨[.bz []],[.el U.parser]⟩,fun x=>x.2.1⟩ (fun x=>by kernel_rfl)
def gU(m:Int->M.ar->Option (M.aa×M.ar)):aE K:={f:=245,sh:=⟨[.ptr 0 0,iq0],[.el U.parser]⟩,R:=M.aa×M.ar,run:=fun x=>m x.1.2.1 x.2.1,dflt:=default,out:=fun r=>(Sh.enc D (.el U.Term) r.1,aY.encs D [.el U.parser] (r.2,()))}
def Dn(m:Int->(List UInt8)->Int->(List (List UInt8))->(List M.aa)->(List M.aj)->Int->Bool->Option (Int×(List UInt8)×Int×(List M.aj)×Int×Bool×(List (List UInt8))×(List M.aa))):aE K:={f:=266,sh:=⟨[.ptr 0 0,.ptr 1 0,.ptr 2 0],[.box [iq0,.str,.own 3,.own 4],.box [.ptr 5 0],.box [iq0],.arr U.str,.arr U.Term,.box [.an U.Token,iq0,.bool]]⟩,R:=Int×(List UInt8)×Int×(List M.aj)×Int×Bool×(List (List UInt8))×(List M.aa),run:=fun x=>m x.2.1.1 x.2.1.2.1 x.2.2.2.1.1 x.2.2.2.2.1 x.2.2.2.2.2.1 x.2.2.2.2.2.2.1.1 x.2.2.2.2.2.2.1.2.1 x.2.2.2.2.2.2.1.2.2.1,dflt:=default,out:=fun r=>(Sh.enc D (.bz []) (),aY.encs D [.box [iq0,.str,.own 6,.own 7],.box [.ptr 5 0],.box [iq0],.dead,.dead,.box [.an U.Token,iq0,.bool],.arr U.str,.arr U.Term] ((r.1,(r.2.1,((),((),())))),(((),()),((r.2.2.1,()),((),((),((r.2.2.2.1,(r.2.2.2.2.1,(r.2.2.2.2.2.1,()))),(r.2.2.2.2.2.2.1,(r.2.2.2.2.2.2.2,())))))))))}
def adS(bu:Int->M.ar->Option (M.aa×M.ar)):Cx K:={eM with mode:=ef .plain [(245,.bh)],mv:=true,call:=callOf D [gU bu],loop:=dR []}
theorem atr(bu:Int->M.ar->Option (M.aa×M.ar))(ek:au (gU bu)):aN (adS bu):=aV aL _ (ae ek ay)
theorem I0(bu:Int->M.ar->Option (M.aa×M.ar))(ek:au (gU bu)):au (Dn (M.lF bu)):=fR (cx:=adS bu) (fz:=true) aL (atr bu ek) fP ⟨Tryz.func266,by kernel_rfl⟩ hq ⟨⟨[.bz []],[.box [iq0,.str,.own 6,.own 7],.box [.ptr 5 0],.box [iq0],.dead,.dead,.box [.an U.Token,iq0,.bool],.arr U.str,.arr U.Term]⟩,fun x=>(x.2.1.1,x.2.1.2.1,x.2.2.2.1.1,x.2.2.2.2.2.2.1.1,x.2.2.2.2.2.2.1.2.1,x.2.2.2.2.2.2.1.2.2.1,x.2.2.2.2.2.2.2.1,x.2.2.2.2.2.2.2.2.1)⟩ (fun x=>rfl) (fun x=>by kernel_rfl)
def att(y:((List M.aj)×Int×Bool×Int×(List UInt8)×Int×(List (List UInt8))×(List M.aa))⊕((List M.aj)×Int×Bool×Int×(List UInt8)×Int×(List (List UInt8))×(List M.aa))){R:Type}(k:KT R):R:=match y with|.inl a0=>kk k Ex.ret IB ((),((a0.1,(a0.2.1,(a0.2.2.1,()))),((a0.2.2.2.1,(a0.2.2.2.2.1,((),((),())))),(((),()),((a0.2.2.2.2.2.1,()),((),((),(a0.2.2.2.2.2.2.1,(a0.2.2.2.2.2.2.2,())))))))))|.inr a1=>kk k (Ex.exit 0) IB ((),((a1.1,(a1.2.1,(a1.2.2.1,()))),((a1.2.2.2.1,(a1.2.2.2.2.1,((),((),())))),(((),()),((a1.2.2.2.2.2.1,()),((),((),(a1.2.2.2.2.2.2.1,(a1.2.2.2.2.2.2.2,())))))))))
def atu:List (cn K (((List M.aj)×Int×Bool×Int×(List UInt8)×Int×(List (List UInt8))×(List M.aa))⊕((List M.aj)×Int×Bool×Int×(List UInt8)×Int×(List (List UInt8))×(List M.aa)))):=[⟨Ex.ret,IB,fun x=>.inl (x.2.1.1,x.2.1.2.1,x.2.1.2.2.1,x.2.2.1.1,x.2.2.1.2.1,x.2.2.2.2.1.1,x.2.2.2.2.2.2.2.1,x.2.2.2.2.2.2.2.2.1)⟩,⟨(Ex.exit 0),IB,fun x=>.inr ((x.2.1.1,x.2.1.2.1,x.2.1.2.2.1,x.2.2.1.1,x.2.2.1.2.1,x.2.2.2.2.1.1,x.2.2.2.2.2.2.2.1,x.2.2.2.2.2.2.2.2.1))⟩]
def adT(bu:Int->M.ar->Option (M.aa×M.ar)):bE K:=bH D false 30 6 [0,1,2,6] [] abY (fun x=>M.qH bu x.1.2.1 ah x.1.2.2.2.1 x.2.1 x.2.2.1.1 x.2.2.1.2.1 x.2.2.2.2.1.1 x.2.2.2.2.2.2.2.1 x.2.2.2.2.2.2.2.2.1) att
def adU(m:Int->M.ar->Int->(List UInt8)->Int->(List (List UInt8))->(List M.aa)->Option (M.ar×Int×(List UInt8)×Int×(List (List UInt8))×(List M.aa))):aE K:={f:=246,sh:=⟨[.ptr 0 0,iq0,.fn 266 [.ptr 1 0,.ptr 2 0,.ptr 3 0]],[.el U.parser,.box [iq0,.str,.own 4,.own 5],.box [.ptr 0 0],.box [iq0],.arr U.str,.arr U.Term]⟩,R:=M.ar×Int×(List UInt8)×Int×(List (List UInt8))×(List M.aa),run:=fun x=>m x.1.2.1 x.2.1 x.2.2.1.1 x.2.2.1.2.1 x.2.2.2.2.1.1 x.2.2.2.2.2.1 x.2.2.2.2.2.2.1,dflt:=default,out:=fun r=>(Sh.enc D (.bz []) (),aY.encs D [.el U.parser,.box [iq0,.str,.own 6,.own 7],.box [.ptr 0 0],.box [iq0],.dead,.dead,.arr U.str,.arr U.Term] (r.1,((r.2.1,(r.2.2.1,((),((),())))),(((),()),((r.2.2.2.1,()),((),((),(r.2.2.2.2.1,(r.2.2.2.2.2,())))))))))}
def I1(bu:Int->M.ar->Option (M.aa×M.ar)):Cx K:={eM with mode:=ef .plain [(173,.bh),(266,.bh)],mv:=true,call:=callOf D [Dn (M.lF bu),mj M.eE],loop:=dR [(1,adT bu)]}
theorem adV(bu:Int->M.ar->Option (M.aa×M.ar))(ek:au (gU bu)):aN (I1 bu):=aV aL _ (ae (I0 bu ek) (ae nf ay))
theorem atv(bu:Int->M.ar->Option (M.aa×M.ar))(ek:au (gU bu)):bF (I1 bu) (bp (bD Tryz.f246) 0) (adT bu):=lk (cx:=I1 bu) (sh:=abY) (run:=fun n x=>M.qH bu x.1.2.1 n x.1.2.2.2.1 x.2.1 x.2.2.1.1 x.2.2.1.2.1 x.2.2.2.2.1.1 x.2.2.2.2.2.2.2.1 x.2.2.2.2.2.2.2.2.1) (bG:=atu) (adV bu ek) (fun m x=>by kernel_rfl) (ae ⟨cO,fun _ _ _=>rfl⟩ (ae ⟨bJ,fun _ _ _=>rfl⟩ ay))
theorem atw(bu:Int->M.ar->Option (M.aa×M.ar))(ek:au (gU bu)):au (adU (M.xn bu)):=fR (cx:=I1 bu) (fz:=true) aL (adV bu ek) fP ⟨Tryz.func246,by kernel_rfl⟩ (hl1 (atv bu ek)) ⟨OE,fun x=>(x.2.1,x.2.2.1.1,x.2.2.1.2.1,x.2.2.2.2.1.1,x.2.2.2.2.2.2.2.1,x.2.2.2.2.2.2.2.2.1)⟩ (fun x=>rfl) (fun x=>by kernel_rfl)
def adW(m:(List UInt8)->Option Bool):aE K:=cB 263 eZ (fun x=>m x.1.1)
def adX:Cx K:=bg [(39,.plain),(264,.plain)] [Iw M.pK,OV M.qF] []
theorem atx:aN adX:=aV aL _ (ae OB (ae adP ay))
theorem aty:au (adW (M.Ad)):=aS (cx:=adX) true atx Tryz.func263 hq ⟨zs0,fun x=>x.1.1⟩ (fun x=>by kernel_rfl)
def adY(m:Int->M.ar->Option ((List UInt8)×M.ar)):aE K:={f:=207,sh:=⟨[.ptr 0 0,iq0,.fn 263 []],[.el U.parser]⟩,R:=(List UInt8)×M.ar,run:=fun x=>m x.1.2.1 x.2.1,dflt:=default,out:=fun r=>(Sh.enc D (.str) r.1,aY.encs D [.el U.parser] (r.2,()))}
def adZ:Cx K:=bg [(263,.plain)] [adW M.Ad] []
theorem atz:aN adZ:=aV aL _ (ae aty ay)
theorem atA:au (adY (M.Ae)):=aS (cx:=adZ) true atz Tryz.func207 hq ⟨yL,fun x=>(x.1.1,x.2.1)⟩ (fun x=>by kernel_rfl)
def I2(m:M.ar->Option ((List UInt8)×M.ar)):aE K:={f:=244,sh:=tY,R:=(List UInt8)×M.ar,run:=fun x=>m x.2.1,dflt:=default,out:=fun r=>(Sh.enc D (.str) r.1,aY.encs D [.el U.parser] (r.2,()))}
def ad1:Cx K:=bg [(207,.bh)] [adY M.Ae] []
theorem atB:aN ad1:=aV aL _ (ae atA ay)
theorem OW:au (I2 (M.mK)):=aS (cx:=ad1) true atB Tryz.func244 hq ⟨yL,fun x=>(x.1.1,x.2.1)⟩ (fun x=>by kernel_rfl)
def atC(y:Int×(List UInt8)×(List (List UInt8))×(List M.aa)){R:Type}(k:KT R):R:=match y with|a0=>kk k (Ex.exit 0) abZ ((),((a0.1,(a0.2.1,((),((),())))),((),((),(a0.2.2.1,(a0.2.2.2,()))))))
def atD:List (cn K (Int×(List UInt8)×(List (List UInt8))×(List M.aa))):=[⟨(Ex.exit 0),abZ,fun x=>(x.2.1.1,x.2.1.2.1,x.2.2.2.2.1,x.2.2.2.2.2.1)⟩]
def ad2:bE K:=bH D false 46 3 [1] [] ab1 (fun x=>M.lG x.2.1.1 x.2.1.2.1 x.2.2.2.2.1 ah x.2.2.2.2.2.1) atC
def ad3(m:M.ar->Int->(List UInt8)->Int->(List (List UInt8))->(List M.aa)->Option (M.ar×Int×(List UInt8)×Int×(List (List UInt8))×(List M.aa))):aE K:={f:=267,sh:=ab2,R:=M.ar×Int×(List UInt8)×Int×(List (List UInt8))×(List M.aa),run:=fun x=>m x.2.1 x.2.2.1.1 x.2.2.1.2.1 x.2.2.2.2.1.1 x.2.2.2.2.2.1 x.2.2.2.2.2.2.1,dflt:=default,out:=fun r=>(Sh.enc D (.bz []) (),aY.encs D [.el U.parser,.box [iq0,.str,.own 6,.own 7],.box [.ptr 0 0],.box [iq0],.dead,.dead,.arr U.str,.arr U.Term] (r.1,((r.2.1,(r.2.2.1,((),((),())))),(((),()),((r.2.2.2.1,()),((),((),(r.2.2.2.2.1,(r.2.2.2.2.2,())))))))))}
def I3(bu:Int->M.ar->Option (M.aa×M.ar)):Cx K:={eM with mode:=ef .plain [(173,.bh),(170,.bh),(266,.bh)],mv:=true,call:=callOf D [mj M.eE,Dn (M.lF bu),pV M.dk],loop:=dR [(7,ad2)]}
theorem ad4(bu:Int->M.ar->Option (M.aa×M.ar))(ek:au (gU bu)):aN (I3 bu):=aV aL _ (ae nf (ae (I0 bu ek) (ae rD ay)))
theorem atE(bu:Int->M.ar->Option (M.aa×M.ar))(ek:au (gU bu)):bF (I3 bu) (bp (bD Tryz.f267) 0) ad2:=lk (cx:=I3 bu) (sh:=ab1) (run:=fun n x=>M.lG x.2.1.1 x.2.1.2.1 x.2.2.2.2.1 n x.2.2.2.2.2.1) (bG:=atD) (ad4 bu ek) (fun m x=>by kernel_rfl) (ae ⟨bJ,fun _ _ _=>rfl⟩ ay)
theorem atF(bu:Int->M.ar->Option (M.aa×M.ar))(ek:au (gU bu)):au (ad3 (M.Ah bu)):=fR (cx:=I3 bu) (fz:=true) aL (ad4 bu ek) fP ⟨Tryz.func267,by kernel_rfl⟩ (hl1 (atE bu ek)) ⟨OE,fun x=>(x.2.1,x.2.2.1.1,x.2.2.1.2.1,x.2.2.2.2.1.1,x.2.2.2.2.2.2.2.1,x.2.2.2.2.2.2.2.2.1)⟩ (fun x=>rfl) (fun x=>by kernel_rfl)
def ad5(m:M.ar->Int->(List UInt8)->Int->(List (List UInt8))->(List M.aa)->Option (M.ar×Int×(List UInt8)×Int×(List (List UInt8))×(List M.aa))):aE K:={f:=269,sh:=ab2,R:=M.ar×Int×(List UInt8)×Int×(List (List UInt8))×(List M.aa),run:=fun x=>m x.2.1 x.2.2.1.1 x.2.2.1.2.1 x.2.2.2.2.1.1 x.2.2.2.2.2.1 x.2.2.2.2.2.2.1,dflt:=default,out:=fun r=>(Sh.enc D (.bz []) (),aY.encs D [.el U.parser,.box [iq0,.str,.own 6,.own 7],.box [.ptr 0 0],.box [iq0],.dead,.dead,.arr U.str,.arr U.Term] (r.1,((r.2.1,(r.2.2.1,((),((),())))),(((),()),((r.2.2.2.1,()),((),((),(r.2.2.2.2.1,(r.2.2.2.2.2,())))))))))}
def ad6(bu:Int->M.ar->Option (M.aa×M.ar)):Cx K:={eM with mode:=ef .plain [(171,.bh),(170,.bh),(173,.bh),(266,.bh)],mv:=true,call:=callOf D [rC M.gA,pV M.dk,Dn (M.lF bu),mj M.eE],loop:=dR []}
theorem atG(bu:Int->M.ar->Option (M.aa×M.ar))(ek:au (gU bu)):aN (ad6 bu):=aV aL _ (ae ua (ae rD (ae (I0 bu ek) (ae nf ay))))
theorem atH(bu:Int->M.ar->Option (M.aa×M.ar))(ek:au (gU bu)):au (ad5 (M.xo bu)):=fR (cx:=ad6 bu) (fz:=true) aL (atG bu ek) fP ⟨Tryz.func269,by kernel_rfl⟩ hq ⟨OE,fun x=>(x.2.1,x.2.2.1.1,x.2.2.1.2.1,x.2.2.2.2.1.1,x.2.2.2.2.2.2.2.1,x.2.2.2.2.2.2.2.2.1)⟩ (fun x=>rfl) (fun x=>by kernel_rfl)
def ad7(m:Int->(List UInt8)->(List M.aj)->Int->Bool->(List (List UInt8))->(List M.aa)->Int->Option (Int×(List UInt8)×(List M.aj)×Int×Bool×Int×(List (List UInt8))×(List M.aa))):aE K:={f:=268,sh:=⟨[.ptr 0 0,.ptr 1 0,.ptr 2 0],[.box [.ptr 3 0],.box [iq0,.str,.own 4,.own 5],.box [.fn 266 [.ptr 1 0,.ptr 0 0,.ptr 6 0]],.box [.an U.Token,iq0,.bool],.arr U.str,.arr U.Term,.box [iq0]]⟩,R:=Int×(List UInt8)×(List M.aj)×Int×Bool×Int×(List (List UInt8))×(List M.aa),run:=fun x=>m x.2.2.1.1 x.2.2.1.2.1 x.2.2.2.2.1.1 x.2.2.2.2.1.2.1 x.2.2.2.2.1.2.2.1 x.2.2.2.2.2.1 x.2.2.2.2.2.2.1 x.2.2.2.2.2.2.2.1.1,dflt:=default,out:=fun r=>(Sh.enc D (.bz []) (),aY.encs D [.box [.ptr 3 0],.box [iq0,.str,.own 7,.own 8],.box [.fn 266 [.ptr 1 0,.ptr 0 0,.ptr 6 0]],.box [.an U.Token,iq0,.bool],.dead,.dead,.box [iq0],.arr U.str,.arr U.Term] (((),()),((r.1,(r.2.1,((),((),())))),((((),((),((),()))),()),((r.2.2.1,(r.2.2.2.1,(r.2.2.2.2.1,()))),((),((),((r.2.2.2.2.2.1,()),(r.2.2.2.2.2.2.1,(r.2.2.2.2.2.2.2,()))))))))))}
def ad8(bu:Int->M.ar->Option (M.aa×M.ar)):Cx K:={eM with mode:=ef .plain [(269,.bh)],mv:=true,call:=callOf D [ad5 (M.xo bu)],loop:=dR []}
theorem atI(bu:Int->M.ar->Option (M.aa×M.ar))(ek:au (gU bu)):aN (ad8 bu):=aV aL _ (ae (atH bu ek) ay)
theorem atJ(bu:Int->M.ar->Option (M.aa×M.ar))(ek:au (gU bu)):au (ad7 (M.E9 bu)):=fR (cx:=ad8 bu) (fz:=true) aL (atI bu ek) fP ⟨Tryz.func268,by kernel_rfl⟩ hq ⟨⟨[.bz []],[.box [.ptr 3 0],.box [iq0,.str,.own 7,.own 8],.box [.fn 266 [.ptr 1 0,.ptr 0 0,.ptr 6 0]],.box [.an U.Token,iq0,.bool],.dead,.dead,.box [iq0],.arr U.str,.arr U.Term]⟩,fun x=>(x.2.2.1.1,x.2.2.1.2.1,x.2.2.2.2.1.1,x.2.2.2.2.1.2.1,x.2.2.2.2.1.2.2.1,x.2.2.2.2.2.2.2.1.1,x.2.2.2.2.2.2.2.2.1,x.2.2.2.2.2.2.2.2.2.1)⟩ (fun x=>rfl) (fun x=>by kernel_rfl)
def atK(y:((List M.aj)×Int×Bool×Int×(List UInt8)×Int×(List (List UInt8))×(List M.aa))⊕((List M.aj)×Int×Bool×Int×(List UInt8)×Int×(List (List UInt8))×(List M.aa))){R:Type}(k:KT R):R:=match y with|.inl a0=>kk k Ex.ret IC ((),((a0.1,(a0.2.1,(a0.2.2.1,()))),(((),()),((a0.2.2.2.1,(a0.2.2.2.2.1,((),((),())))),((((),((),((),()))),()),((),((),((a0.2.2.2.2.2.1,()),(a0.2.2.2.2.2.2.1,(a0.2.2.2.2.2.2.2,()))))))))))|.inr a1=>kk k (Ex.exit 0) IC ((),((a1.1,(a1.2.1,(a1.2.2.1,()))),(((),()),((a1.2.2.2.1,(a1.2.2.2.2.1,((),((),())))),((((),((),((),()))),()),((),((),((a1.2.2.2.2.2.1,()),(a1.2.2.2.2.2.2.1,(a1.2.2.2.2.2.2.2,()))))))))))
def atL:List (cn K (((List M.aj)×Int×Bool×Int×(List UInt8)×Int×(List (List UInt8))×(List M.aa))⊕((List M.aj)×Int×Bool×Int×(List UInt8)×Int×(List (List UInt8))×(List M.aa)))):=[⟨Ex.ret,IC,fun x=>.inl (x.2.1.1,x.2.1.2.1,x.2.1.2.2.1,x.2.2.2.1.1,x.2.2.2.1.2.1,x.2.2.2.2.2.2.2.1.1,x.2.2.2.2.2.2.2.2.1,x.2.2.2.2.2.2.2.2.2.1)⟩,⟨(Ex.exit 0),IC,fun x=>.inr ((x.2.1.1,x.2.1.2.1,x.2.1.2.2.1,x.2.2.2.1.1,x.2.2.2.1.2.1,x.2.2.2.2.2.2.2.1.1,x.2.2.2.2.2.2.2.2.1,x.2.2.2.2.2.2.2.2.2.1))⟩]
def ad9(bu:Int->M.ar->Option (M.aa×M.ar)):bE K:=bH D false 30 7 [0,1,2,6] [] ab3 (fun x=>M.qI bu x.1.2.1 ah x.1.2.2.2.1 x.2.1 x.2.2.2.1.1 x.2.2.2.1.2.1 x.2.2.2.2.2.2.2.1.1 x.2.2.2.2.2.2.2.2.1 x.2.2.2.2.2.2.2.2.2.1) atK
def aea(m:Int->M.ar->Int->(List UInt8)->(List (List UInt8))->(List M.aa)->Int->Option (M.ar×Int×(List UInt8)×Int×(List (List UInt8))×(List M.aa))):aE K:={f:=246,sh:=⟨[.ptr 0 0,iq0,.fn 268 [.ptr 1 0,.ptr 2 0,.ptr 3 0]],[.el U.parser,.box [.ptr 0 0],.box [iq0,.str,.own 4,.own 5],.box [.fn 266 [.ptr 2 0,.ptr 1 0,.ptr 6 0]],.arr U.str,.arr U.Term,.box [iq0]]⟩,R:=M.ar×Int×(List UInt8)×Int×(List (List UInt8))×(List M.aa),run:=fun x=>m x.1.2.1 x.2.1 x.2.2.2.1.1 x.2.2.2.1.2.1 x.2.2.2.2.2.1 x.2.2.2.2.2.2.1 x.2.2.2.2.2.2.2.1.1,dflt:=default,out:=fun r=>(Sh.enc D (.bz []) (),aY.encs D [.el U.parser,.box [.ptr 0 0],.box [iq0,.str,.own 7,.own 8],.box [.fn 266 [.ptr 2 0,.ptr 1 0,.ptr 6 0]],.dead,.dead,.box [iq0],.arr U.str,.arr U.Term] (r.1,(((),()),((r.2.1,(r.2.2.1,((),((),())))),((((),((),((),()))),()),((),((),((r.2.2.2.1,()),(r.2.2.2.2.1,(r.2.2.2.2.2,()))))))))))}
def I4(bu:Int->M.ar->Option (M.aa×M.ar)):Cx K:={eM with mode:=ef .plain [(173,.bh),(268,.bh)],mv:=true,call:=callOf D [ad7 (M.E9 bu),mj M.eE],loop:=dR [(1,ad9 bu)]}
theorem aeb(bu:Int->M.ar->Option (M.aa×M.ar))(ek:au (gU bu)):aN (I4 bu):=aV aL _ (ae (atJ bu ek) (ae nf ay))
theorem atM(bu:Int->M.ar->Option (M.aa×M.ar))(ek:au (gU bu)):bF (I4 bu) (bp (bD Tryz.f246) 0) (ad9 bu):=lk (cx:=I4 bu) (sh:=ab3) (run:=fun n x=>M.qI bu x.1.2.1 n x.1.2.2.2.1 x.2.1 x.2.2.2.1.1 x.2.2.2.1.2.1 x.2.2.2.2.2.2.2.1.1 x.2.2.2.2.2.2.2.2.1 x.2.2.2.2.2.2.2.2.2.1) (bG:=atL) (aeb bu ek) (fun m x=>by kernel_rfl) (ae ⟨cO,fun _ _ _=>rfl⟩ (ae ⟨bJ,fun _ _ _=>rfl⟩ ay))
theorem atN(bu:Int->M.ar->Option (M.aa×M.ar))(ek:au (gU bu)):au (aea (M.xp bu)):=fR (cx:=I4 bu) (fz:=true) aL (aeb bu ek) fP ⟨Tryz.func246,by kernel_rfl⟩ (hl1 (atM bu ek)) ⟨⟨[.bz []],[.el U.parser,.box [.ptr 0 0],.box [iq0,.str,.own 7,.own 8],.box [.fn 266 [.ptr 2 0,.ptr 1 0,.ptr 6 0]],.dead,.dead,.box [iq0],.arr U.str,.arr U.Term]⟩,fun x=>(x.2.1,x.2.2.2.1.1,x.2.2.2.1.2.1,x.2.2.2.2.2.2.2.1.1,x.2.2.2.2.2.2.2.2.1,x.2.2.2.2.2.2.2.2.2.1)⟩ (fun x=>rfl) (fun x=>by kernel_rfl)
def aec(bu:Int->M.ar->Option (M.aa×M.ar)):Cx K:=bg [(171,.bh),(264,.plain),(201,.jG),(265,.plain),(170,.bh),(246,.bh),(244,.bh),(267,.bh),(266,.bh)] [rC M.gA,OV M.qF,GK M.fN,OM M.uY,pV M.dk,Dn (M.lF bu),adU (M.xn bu),I2 M.mK,ad3 (M.Ah bu),aea (M.xp bu)] []
theorem atO(bu:Int->M.ar->Option (M.aa×M.ar))(ek:au (gU bu)):aN (aec bu):=aV aL _ (ae ua (ae adP (ae N7 (ae acX (ae rD (ae (I0 bu ek) (ae (atw bu ek) (ae OW (ae (atF bu ek) (ae (atN bu ek) ay))))))))))
theorem atP(bu:Int->M.ar->Option (M.aa×M.ar))(ek:au (gU bu)):au (gU (M.sC bu)):=fR (cx:=aec bu) (fz:=true) aL (atO bu ek) fP ⟨Tryz.func245,by kernel_rfl⟩ hq ⟨⟨[.el U.Term],[.el U.parser]⟩,fun x=>(x.1.1,x.2.1)⟩ (fun x=>rfl) (fun x=>by kernel_rfl)
theorem aed:∀n,au (gU (M.u4 n))|0=>nE fun _=>rfl|n+1=>atP (M.u4 n) (aed n)
theorem OX:au (gU (M.qK)):=aed ah
def aee(m:Int->M.ar->Option ((List UInt8)×M.ar)):aE K:={f:=207,sh:=⟨[.ptr 0 0,iq0,.fn 40 []],[.el U.parser]⟩,R:=(List UInt8)×M.ar,run:=fun x=>m x.1.2.1 x.2.1,dflt:=default,out:=fun r=>(Sh.enc D (.str) r.1,aY.encs D [.el U.parser] (r.2,()))}
def aef:Cx K:=bg [(40,.plain)] [Im M.rk] []
theorem atQ:aN aef:=aV aL _ (ae Ov ay)
theorem atS:au (aee (M.Af)):=aS (cx:=aef) true atQ Tryz.func207 hq ⟨yL,fun x=>(x.1.1,x.2.1)⟩ (fun x=>by kernel_rfl)
def OY(m:M.ar->Option ((List UInt8)×M.ar)):aE K:={f:=172,sh:=tY,R:=(List UInt8)×M.ar,run:=fun x=>m x.2.1,dflt:=default,out:=fun r=>(Sh.enc D (.str) r.1,aY.encs D [.el U.parser] (r.2,()))}
def aeg:Cx K:=bg [(207,.bh)] [aee M.Af] []
theorem atT:aN aeg:=aV aL _ (ae atS ay)
theorem aeh:au (OY (M.sy)):=aS (cx:=aeg) true atT Tryz.func172 hq ⟨yL,fun x=>(x.1.1,x.2.1)⟩ (fun x=>by kernel_rfl)
def aei(m:Int->(List UInt8)->Int->(List UInt8)->Bool->(List UInt8)->(List UInt8)->(List UInt8)->(List M.aj)->Int->Bool->(List (List UInt8))->(List M.aa)->(List M.aA)->(List M.aO)->Option (Int×(List UInt8)×Int×(List UInt8)×Bool×(List UInt8)×(List UInt8)×(List UInt8)×(List M.aj)×Int×Bool×(List (List UInt8))×(List M.aa)×(List M.aA)×(List M.aO))):aE K:={f:=262,sh:=ab4,R:=Int×(List UInt8)×Int×(List UInt8)×Bool×(List UInt8)×(List UInt8)×(List UInt8)×(List M.aj)×Int×Bool×(List (List UInt8))×(List M.aa)×(List M.aA)×(List M.aO),run:=fun x=>m x.2.2.1.1 x.2.2.1.2.1 x.2.2.1.2.2.1 x.2.2.1.2.2.2.1 x.2.2.1.2.2.2.2.2.2.2.1 x.2.2.1.2.2.2.2.2.2.2.2.1 x.2.2.1.2.2.2.2.2.2.2.2.2.1 x.2.2.1.2.2.2.2.2.2.2.2.2.2.1 x.2.2.2.1.1 x.2.2.2.1.2.1 x.2.2.2.1.2.2.1 x.2.2.2.2.1 x.2.2.2.2.2.1 x.2.2.2.2.2.2.1 x.2.2.2.2.2.2.2.1,dflt:=default,out:=fun r=>(Sh.enc D (.bz []) (),aY.encs D [.box [.ptr 2 0],.box [iq0,.str,iq0,.str,.own 7,.own 8,.own 9,.bool,.str,.str,.str,.own 10],.box [.an U.Token,iq0,.bool],.dead,.dead,.dead,.dead,.arr U.str,.arr U.Term,.arr U.cY,.arr U.de] (((),()),((r.1,(r.2.1,(r.2.2.1,(r.2.2.2.1,((),((),((),(r.2.2.2.2.1,(r.2.2.2.2.2.1,(r.2.2.2.2.2.2.1,(r.2.2.2.2.2.2.2.1,((),())))))))))))),((r.2.2.2.2.2.2.2.2.1,(r.2.2.2.2.2.2.2.2.2.1,(r.2.2.2.2.2.2.2.2.2.2.1,()))),((),((),((),((),(r.2.2.2.2.2.2.2.2.2.2.2.1,(r.2.2.2.2.2.2.2.2.2.2.2.2.1,(r.2.2.2.2.2.2.2.2.2.2.2.2.2.1,(r.2.2.2.2.2.2.2.2.2.2.2.2.2.2,()))))))))))))}
def aej:Cx K:={eM with mode:=ef .plain [(171,.bh),(170,.bh),(245,.bh)],mv:=true,call:=callOf D [rC M.gA,pV M.dk,gU M.qK],loop:=dR []}
theorem atU:aN aej:=aV aL _ (ae ua (ae rD (ae OX ay)))
theorem atV:au (aei (M.Ak)):=aS (cx:=aej) true atU Tryz.func262 hq ⟨ab5,fun x=>(x.2.2.1.1,x.2.2.1.2.1,x.2.2.1.2.2.1,x.2.2.1.2.2.2.1,x.2.2.1.2.2.2.2.2.2.2.1,x.2.2.1.2.2.2.2.2.2.2.2.1,x.2.2.1.2.2.2.2.2.2.2.2.2.1,x.2.2.1.2.2.2.2.2.2.2.2.2.2.1,x.2.2.2.1.1,x.2.2.2.1.2.1,x.2.2.2.1.2.2.1,x.2.2.2.2.2.2.2.2.1,x.2.2.2.2.2.2.2.2.2.1,x.2.2.2.2.2.2.2.2.2.2.1,x.2.2.2.2.2.2.2.2.2.2.2.1)⟩ (fun x=>by kernel_rfl)
def aek(y:((List M.aj)×Int×Bool×Int×(List UInt8)×Int×(List UInt8)×Bool×(List UInt8)×(List UInt8)×(List UInt8)×(List (List UInt8))×(List M.aa)×(List M.aA)×(List M.aO))⊕((List M.aj)×Int×Bool×Int×(List UInt8)×Int×(List UInt8)×Bool×(List UInt8)×(List UInt8)×(List UInt8)×(List (List UInt8))×(List M.aa)×(List M.aA)×(List M.aO))){R:Type}(k:KT R):R:=match y with|.inl a0=>kk k Ex.ret Ix ((),((a0.1,(a0.2.1,(a0.2.2.1,()))),(((),()),((a0.2.2.2.1,(a0.2.2.2.2.1,(a0.2.2.2.2.2.1,(a0.2.2.2.2.2.2.1,((),((),((),(a0.2.2.2.2.2.2.2.1,(a0.2.2.2.2.2.2.2.2.1,(a0.2.2.2.2.2.2.2.2.2.1,(a0.2.2.2.2.2.2.2.2.2.2.1,((),())))))))))))),((),((),((),((),(a0.2.2.2.2.2.2.2.2.2.2.2.1,(a0.2.2.2.2.2.2.2.2.2.2.2.2.1,(a0.2.2.2.2.2.2.2.2.2.2.2.2.2.1,(a0.2.2.2.2.2.2.2.2.2.2.2.2.2.2,()))))))))))))|.inr a1=>kk k (Ex.exit 0) Ix ((),((a1.1,(a1.2.1,(a1.2.2.1,()))),(((),()),((a1.2.2.2.1,(a1.2.2.2.2.1,(a1.2.2.2.2.2.1,(a1.2.2.2.2.2.2.1,((),((),((),(a1.2.2.2.2.2.2.2.1,(a1.2.2.2.2.2.2.2.2.1,(a1.2.2.2.2.2.2.2.2.2.1,(a1.2.2.2.2.2.2.2.2.2.2.1,((),())))))))))))),((),((),((),((),(a1.2.2.2.2.2.2.2.2.2.2.2.1,(a1.2.2.2.2.2.2.2.2.2.2.2.2.1,(a1.2.2.2.2.2.2.2.2.2.2.2.2.2.1,(a1.2.2.2.2.2.2.2.2.2.2.2.2.2.2,()))))))))))))
def ael:List (cn K (((List M.aj)×Int×Bool×Int×(List UInt8)×Int×(List UInt8)×Bool×(List UInt8)×(List UInt8)×(List UInt8)×(List (List UInt8))×(List M.aa)×(List M.aA)×(List M.aO))⊕((List M.aj)×Int×Bool×Int×(List UInt8)×Int×(List UInt8)×Bool×(List UInt8)×(List UInt8)×(List UInt8)×(List (List UInt8))×(List M.aa)×(List M.aA)×(List M.aO)))):=[⟨Ex.ret,Ix,fun x=>.inl (x.2.1.1,x.2.1.2.1,x.2.1.2.2.1,x.2.2.2.1.1,x.2.2.2.1.2.1,x.2.2.2.1.2.2.1,x.2.2.2.1.2.2.2.1,x.2.2.2.1.2.2.2.2.2.2.2.1,x.2.2.2.1.2.2.2.2.2.2.2.2.1,x.2.2.2.1.2.2.2.2.2.2.2.2.2.1,x.2.2.2.1.2.2.2.2.2.2.2.2.2.2.1,x.2.2.2.2.2.2.2.2.1,x.2.2.2.2.2.2.2.2.2.1,x.2.2.2.2.2.2.2.2.2.2.1,x.2.2.2.2.2.2.2.2.2.2.2.1)⟩,⟨(Ex.exit 0),Ix,fun x=>.inr ((x.2.1.1,x.2.1.2.1,x.2.1.2.2.1,x.2.2.2.1.1,x.2.2.2.1.2.1,x.2.2.2.1.2.2.1,x.2.2.2.1.2.2.2.1,x.2.2.2.1.2.2.2.2.2.2.2.1,x.2.2.2.1.2.2.2.2.2.2.2.2.1,x.2.2.2.1.2.2.2.2.2.2.2.2.2.1,x.2.2.2.1.2.2.2.2.2.2.2.2.2.2.1,x.2.2.2.2.2.2.2.2.1,x.2.2.2.2.2.2.2.2.2.1,x.2.2.2.2.2.2.2.2.2.2.1,x.2.2.2.2.2.2.2.2.2.2.2.1))⟩]
def aem:bE K:=bH D false 30 7 [0,1,2,6] [] ab6 (fun x=>M.sF x.1.2.1 ah x.1.2.2.2.1 x.2.1 x.2.2.2.1.1 x.2.2.2.1.2.1 x.2.2.2.1.2.2.1 x.2.2.2.1.2.2.2.1 x.2.2.2.1.2.2.2.2.2.2.2.1 x.2.2.2.1.2.2.2.2.2.2.2.2.1 x.2.2.2.1.2.2.2.2.2.2.2.2.2.1 x.2.2.2.1.2.2.2.2.2.2.2.2.2.2.1 x.2.2.2.2.2.2.2.2.1 x.2.2.2.2.2.2.2.2.2.1 x.2.2.2.2.2.2.2.2.2.2.1 x.2.2.2.2.2.2.2.2.2.2.2.1) aek
def aen(m:Int->M.ar->Int->(List UInt8)->Int->(List UInt8)->Bool->(List UInt8)->(List UInt8)->(List UInt8)->(List (List UInt8))->(List M.aa)->(List M.aA)->(List M.aO)->Option (M.ar×Int×(List UInt8)×Int×(List UInt8)×Bool×(List UInt8)×(List UInt8)×(List UInt8)×(List (List UInt8))×(List M.aa)×(List M.aA)×(List M.aO))):aE K:={f:=246,sh:=⟨[.ptr 0 0,iq0,.fn 262 [.ptr 1 0,.ptr 2 0]],[.el U.parser,.box [.ptr 0 0],.box [iq0,.str,iq0,.str,.own 3,.own 4,.own 5,.bool,.str,.str,.str,.own 6],.arr U.str,.arr U.Term,.arr U.cY,.arr U.de]⟩,R:=M.ar×Int×(List UInt8)×Int×(List UInt8)×Bool×(List UInt8)×(List UInt8)×(List UInt8)×(List (List UInt8))×(List M.aa)×(List M.aA)×(List M.aO),run:=fun x=>m x.1.2.1 x.2.1 x.2.2.2.1.1 x.2.2.2.1.2.1 x.2.2.2.1.2.2.1 x.2.2.2.1.2.2.2.1 x.2.2.2.1.2.2.2.2.2.2.2.1 x.2.2.2.1.2.2.2.2.2.2.2.2.1 x.2.2.2.1.2.2.2.2.2.2.2.2.2.1 x.2.2.2.1.2.2.2.2.2.2.2.2.2.2.1 x.2.2.2.2.1 x.2.2.2.2.2.1 x.2.2.2.2.2.2.1 x.2.2.2.2.2.2.2.1,dflt:=default,out:=fun r=>(Sh.enc D (.bz []) (),aY.encs D [.el U.parser,.box [.ptr 0 0],.box [iq0,.str,iq0,.str,.own 7,.own 8,.own 9,.bool,.str,.str,.str,.own 10],.dead,.dead,.dead,.dead,.arr U.str,.arr U.Term,.arr U.cY,.arr U.de] (r.1,(((),()),((r.2.1,(r.2.2.1,(r.2.2.2.1,(r.2.2.2.2.1,((),((),((),(r.2.2.2.2.2.1,(r.2.2.2.2.2.2.1,(r.2.2.2.2.2.2.2.1,(r.2.2.2.2.2.2.2.2.1,((),())))))))))))),((),((),((),((),(r.2.2.2.2.2.2.2.2.2.1,(r.2.2.2.2.2.2.2.2.2.2.1,(r.2.2.2.2.2.2.2.2.2.2.2.1,(r.2.2.2.2.2.2.2.2.2.2.2.2,()))))))))))))}
def I5:Cx K:={eM with mode:=ef .plain [(173,.bh),(262,.bh)],mv:=true,call:=callOf D [aei M.Ak,mj M.eE],loop:=dR [(1,aem)]}
theorem aeo:aN I5:=aV aL _ (ae atV (ae nf ay))
theorem atW:bF I5 (bp (bD Tryz.f246) 0) aem:=lk (cx:=I5) (sh:=ab6) (run:=fun n x=>M.sF x.1.2.1 n x.1.2.2.2.1 x.2.1 x.2.2.2.1.1 x.2.2.2.1.2.1 x.2.2.2.1.2.2.1 x.2.2.2.1.2.2.2.1 x.2.2.2.1.2.2.2.2.2.2.2.1 x.2.2.2.1.2.2.2.2.2.2.2.2.1 x.2.2.2.1.2.2.2.2.2.2.2.2.2.1 x.2.2.2.1.2.2.2.2.2.2.2.2.2.2.1 x.2.2.2.2.2.2.2.2.1 x.2.2.2.2.2.2.2.2.2.1 x.2.2.2.2.2.2.2.2.2.2.1 x.2.2.2.2.2.2.2.2.2.2.2.1) (bG:=ael) aeo (fun m x=>by kernel_rfl) (ae ⟨cO,fun _ _ _=>rfl⟩ (ae ⟨bJ,fun _ _ _=>rfl⟩ ay))
theorem atX:au (aen (M.xt)):=aS (cx:=I5) true aeo Tryz.func246 (hl1 atW) ⟨ab7,fun x=>(x.2.1,x.2.2.2.1.1,x.2.2.2.1.2.1,x.2.2.2.1.2.2.1,x.2.2.2.1.2.2.2.1,x.2.2.2.1.2.2.2.2.2.2.2.1,x.2.2.2.1.2.2.2.2.2.2.2.2.1,x.2.2.2.1.2.2.2.2.2.2.2.2.2.1,x.2.2.2.1.2.2.2.2.2.2.2.2.2.2.1,x.2.2.2.2.2.2.2.2.1,x.2.2.2.2.2.2.2.2.2.1,x.2.2.2.2.2.2.2.2.2.2.1,x.2.2.2.2.2.2.2.2.2.2.2.1)⟩ (fun x=>by kernel_rfl)
def aep(m:(List UInt8)->M.ar->Option (M.af×M.ar)):aE K:={f:=243,sh:=IA,R:=M.af×M.ar,run:=fun x=>m x.1.2.1 x.2.1,dflt:=default,out:=fun r=>(Sh.enc D (.el U.Item) r.1,aY.encs D [.el U.parser] (r.2,()))}
def aeq:Cx K:=bg [(170,.bh),(173,.bh),(208,.bh),(246,.bh),(245,.bh)] [pV M.dk,mj M.eE,yO M.l9,aen M.xt,gU M.qK] []
theorem atY:aN aeq:=aV aL _ (ae rD (ae nf (ae Dm (ae atX (ae OX ay)))))
theorem atZ:au (aep (M.xz)):=aS (cx:=aeq) true atY Tryz.func243 hq ⟨⟨[.el U.Item],[.el U.parser]⟩,fun x=>(x.1.1,x.2.1)⟩ (fun x=>by kernel_rfl)
def OZ(m:M.ar->Option (M.aQ×M.ar)):aE K:={f:=210,sh:=tY,R:=M.aQ×M.ar,run:=fun x=>m x.2.1,dflt:=default,out:=fun r=>(Sh.enc D (.el U.Path) r.1,aY.encs D [.el U.parser] (r.2,()))}
def aer:Cx K:=bg [(171,.bh),(173,.bh),(172,.bh)] [rC M.gA,mj M.eE,OY M.sy] []
theorem at1:aN aer:=aV aL _ (ae ua (ae nf (ae aeh ay)))
theorem aes:au (OZ (M.mP)):=aS (cx:=aer) true at1 Tryz.func210 hq ⟨⟨[.el U.Path],[.el U.parser]⟩,fun x=>(x.1.1,x.2.1)⟩ (fun x=>by kernel_rfl)
def aet(m:Int->(List UInt8)->Int->(List UInt8)->Bool->(List UInt8)->(List UInt8)->(List UInt8)->(List M.aj)->Int->Bool->(List (List UInt8))->(List M.aa)->(List M.aA)->(List M.aO)->Option (Int×(List UInt8)×Int×(List UInt8)×Bool×(List UInt8)×(List UInt8)×(List UInt8)×(List M.aj)×Int×Bool×(List (List UInt8))×(List M.aa)×(List M.aA)×(List M.aO))):aE K:={f:=247,sh:=ab4,R:=Int×(List UInt8)×Int×(List UInt8)×Bool×(List UInt8)×(List UInt8)×(List UInt8)×(List M.aj)×Int×Bool×(List (List UInt8))×(List M.aa)×(List M.aA)×(List M.aO),run:=fun x=>m x.2.2.1.1 x.2.2.1.2.1 x.2.2.1.2.2.1 x.2.2.1.2.2.2.1 x.2.2.1.2.2.2.2.2.2.2.1 x.2.2.1.2.2.2.2.2.2.2.2.1 x.2.2.1.2.2.2.2.2.2.2.2.2.1 x.2.2.1.2.2.2.2.2.2.2.2.2.2.1 x.2.2.2.1.1 x.2.2.2.1.2.1 x.2.2.2.1.2.2.1 x.2.2.2.2.1 x.2.2.2.2.2.1 x.2.2.2.2.2.2.1 x.2.2.2.2.2.2.2.1,dflt:=default,out:=fun r=>(Sh.enc D (.bz []) (),aY.encs D [.box [.ptr 2 0],.box [iq0,.str,iq0,.str,.own 7,.own 8,.own 9,.bool,.str,.str,.str,.own 10],.box [.an U.Token,iq0,.bool],.dead,.dead,.dead,.dead,.arr U.str,.arr U.Term,.arr U.cY,.arr U.de] (((),()),((r.1,(r.2.1,(r.2.2.1,(r.2.2.2.1,((),((),((),(r.2.2.2.2.1,(r.2.2.2.2.2.1,(r.2.2.2.2.2.2.1,(r.2.2.2.2.2.2.2.1,((),())))))))))))),((r.2.2.2.2.2.2.2.2.1,(r.2.2.2.2.2.2.2.2.2.1,(r.2.2.2.2.2.2.2.2.2.2.1,()))),((),((),((),((),(r.2.2.2.2.2.2.2.2.2.2.2.1,(r.2.2.2.2.2.2.2.2.2.2.2.2.1,(r.2.2.2.2.2.2.2.2.2.2.2.2.2.1,(r.2.2.2.2.2.2.2.2.2.2.2.2.2.2,()))))))))))))}
def aeu:Cx K:={eM with mode:=ef .plain [(244,.bh),(173,.bh)],mv:=true,call:=callOf D [I2 M.mK,mj M.eE],loop:=dR []}
theorem at6:aN aeu:=aV aL _ (ae OW (ae nf ay))
theorem at7:au (aet (M.Am)):=aS (cx:=aeu) true at6 Tryz.func247 hq ⟨ab5,fun x=>(x.2.2.1.1,x.2.2.1.2.1,x.2.2.1.2.2.1,x.2.2.1.2.2.2.1,x.2.2.1.2.2.2.2.2.2.2.1,x.2.2.1.2.2.2.2.2.2.2.2.1,x.2.2.1.2.2.2.2.2.2.2.2.2.1,x.2.2.1.2.2.2.2.2.2.2.2.2.2.1,x.2.2.2.1.1,x.2.2.2.1.2.1,x.2.2.2.1.2.2.1,x.2.2.2.2.2.2.2.2.1,x.2.2.2.2.2.2.2.2.2.1,x.2.2.2.2.2.2.2.2.2.2.1,x.2.2.2.2.2.2.2.2.2.2.2.1)⟩ (fun x=>by kernel_rfl)
def aev:bE K:=bH D false 30 7 [0,1,2,6] [] ab8 (fun x=>M.sG x.1.2.1 ah x.1.2.2.2.1 x.2.1 x.2.2.2.1.1 x.2.2.2.1.2.1 x.2.2.2.1.2.2.1 x.2.2.2.1.2.2.2.1 x.2.2.2.1.2.2.2.2.2.2.2.1 x.2.2.2.1.2.2.2.2.2.2.2.2.1 x.2.2.2.1.2.2.2.2.2.2.2.2.2.1 x.2.2.2.1.2.2.2.2.2.2.2.2.2.2.1 x.2.2.2.2.2.2.2.2.1 x.2.2.2.2.2.2.2.2.2.1 x.2.2.2.2.2.2.2.2.2.2.1 x.2.2.2.2.2.2.2.2.2.2.2.1) aek
def aew(m:Int->M.ar->Int->(List UInt8)->Int->(List UInt8)->Bool->(List UInt8)->(List UInt8)->(List UInt8)->(List (List UInt8))->(List M.aa)->(List M.aA)->(List M.aO)->Option (M.ar×Int×(List UInt8)×Int×(List UInt8)×Bool×(List UInt8)×(List UInt8)×(List UInt8)×(List (List UInt8))×(List M.aa)×(List M.aA)×(List M.aO))):aE K:={f:=246,sh:=⟨[.ptr 0 0,iq0,.fn 247 [.ptr 1 0,.ptr 2 0]],[.el U.parser,.box [.ptr 0 0],.box [iq0,.str,iq0,.str,.own 3,.own 4,.own 5,.bool,.str,.str,.str,.own 6],.arr U.str,.arr U.Term,.arr U.cY,.arr U.de]⟩,R:=M.ar×Int×(List UInt8)×Int×(List UInt8)×Bool×(List UInt8)×(List UInt8)×(List UInt8)×(List (List UInt8))×(List M.aa)×(List M.aA)×(List M.aO),run:=fun x=>m x.1.2.1 x.2.1 x.2.2.2.1.1 x.2.2.2.1.2.1 x.2.2.2.1.2.2.1 x.2.2.2.1.2.2.2.1 x.2.2.2.1.2.2.2.2.2.2.2.1 x.2.2.2.1.2.2.2.2.2.2.2.2.1 x.2.2.2.1.2.2.2.2.2.2.2.2.2.1 x.2.2.2.1.2.2.2.2.2.2.2.2.2.2.1 x.2.2.2.2.1 x.2.2.2.2.2.1 x.2.2.2.2.2.2.1 x.2.2.2.2.2.2.2.1,dflt:=default,out:=fun r=>(Sh.enc D (.bz []) (),aY.encs D [.el U.parser,.box [.ptr 0 0],.box [iq0,.str,iq0,.str,.own 7,.own 8,.own 9,.bool,.str,.str,.str,.own 10],.dead,.dead,.dead,.dead,.arr U.str,.arr U.Term,.arr U.cY,.arr U.de] (r.1,(((),()),((r.2.1,(r.2.2.1,(r.2.2.2.1,(r.2.2.2.2.1,((),((),((),(r.2.2.2.2.2.1,(r.2.2.2.2.2.2.1,(r.2.2.2.2.2.2.2.1,(r.2.2.2.2.2.2.2.2.1,((),())))))))))))),((),((),((),((),(r.2.2.2.2.2.2.2.2.2.1,(r.2.2.2.2.2.2.2.2.2.2.1,(r.2.2.2.2.2.2.2.2.2.2.2.1,(r.2.2.2.2.2.2.2.2.2.2.2.2,()))))))))))))}
def I6:Cx K:={eM with mode:=ef .plain [(173,.bh),(247,.bh)],mv:=true,call:=callOf D [aet M.Am,mj M.eE],loop:=dR [(1,aev)]}
theorem aex:aN I6:=aV aL _ (ae at7 (ae nf ay))
theorem aua:bF I6 (bp (bD Tryz.f246) 0) aev:=lk (cx:=I6) (sh:=ab8) (run:=fun n x=>M.sG x.1.2.1 n x.1.2.2.2.1 x.2.1 x.2.2.2.1.1 x.2.2.2.1.2.1 x.2.2.2.1.2.2.1 x.2.2.2.1.2.2.2.1 x.2.2.2.1.2.2.2.2.2.2.2.1 x.2.2.2.1.2.2.2.2.2.2.2.2.1 x.2.2.2.1.2.2.2.2.2.2.2.2.2.1 x.2.2.2.1.2.2.2.2.2.2.2.2.2.2.1 x.2.2.2.2.2.2.2.2.1 x.2.2.2.2.2.2.2.2.2.1 x.2.2.2.2.2.2.2.2.2.2.1 x.2.2.2.2.2.2.2.2.2.2.2.1) (bG:=ael) aex (fun m x=>by kernel_rfl) (ae ⟨cO,fun _ _ _=>rfl⟩ (ae ⟨bJ,fun _ _ _=>rfl⟩ ay))
theorem aub:au (aew (M.ve)):=aS (cx:=I6) true aex Tryz.func246 (hl1 aua) ⟨ab7,fun x=>(x.2.1,x.2.2.2.1.1,x.2.2.2.1.2.1,x.2.2.2.1.2.2.1,x.2.2.2.1.2.2.2.1,x.2.2.2.1.2.2.2.2.2.2.2.1,x.2.2.2.1.2.2.2.2.2.2.2.2.1,x.2.2.2.1.2.2.2.2.2.2.2.2.2.1,x.2.2.2.1.2.2.2.2.2.2.2.2.2.2.1,x.2.2.2.2.2.2.2.2.1,x.2.2.2.2.2.2.2.2.2.1,x.2.2.2.2.2.2.2.2.2.2.1,x.2.2.2.2.2.2.2.2.2.2.2.1)⟩ (fun x=>by kernel_rfl)
def aey(m:M.ar->Option (M.af×M.ar)):aE K:={f:=209,sh:=tY,R:=M.af×M.ar,run:=fun x=>m x.2.1,dflt:=default,out:=fun r=>(Sh.enc D (.el U.Item) r.1,aY.encs D [.el U.parser] (r.2,()))}
def aez:Cx K:=bg [(171,.bh),(208,.bh),(243,.bh),(244,.bh),(170,.bh),(245,.bh),(210,.bh),(246,.bh)] [rC M.gA,yO M.l9,aep M.xz,I2 M.mK,pV M.dk,gU M.qK,OZ M.mP,aew M.ve] []
theorem auc:aN aez:=aV aL _ (ae ua (ae Dm (ae atZ (ae OW (ae rD (ae OX (ae aes (ae aub ay))))))))
theorem aud:au (aey (M.Ar)):=aS (cx:=aez) true auc Tryz.func209 hq ⟨⟨[.el U.Item],[.el U.parser]⟩,fun x=>(x.1.1,x.2.1)⟩ (fun x=>by kernel_rfl)
def aue(y:M.ar×(List UInt8)×(List UInt8)×(List M.af)×(List M.af)){R:Type}(k:KT R):R:=match y with|a0=>kk k (Ex.exit 0) ID (((),((),((),()))),(a0.1,((a0.2.1,((),())),((a0.2.2.1,((),())),((),((),(a0.2.2.2.1,(a0.2.2.2.2,()))))))))
def auf:List (cn K (M.ar×(List UInt8)×(List UInt8)×(List M.af)×(List M.af))):=[⟨(Ex.exit 0),ID,fun x=>(x.2.1,x.2.2.1.1,x.2.2.2.1.1,x.2.2.2.2.2.2.1,x.2.2.2.2.2.2.2.1)⟩]
def aeA:bE K:=bH D false 37 5 [0,2,3] [0,2,3] ID (fun x=>M.xA x.2.2.1.1 x.2.2.2.1.1 x.2.2.2.2.2.2.1 ah x.2.1 x.2.2.2.2.2.2.2.1) aue
def aeB(m:M.ar->Option (M.aD×M.ar)):aE K:={f:=174,sh:=tY,R:=M.aD×M.ar,run:=fun x=>m x.2.1,dflt:=default,out:=fun r=>(Sh.enc D (.el U.cz) r.1,aY.encs D [.el U.parser] (r.2,()))}
def I7:Cx K:=bg [(171,.bh),(170,.bh),(208,.bh),(209,.bh)] [rC M.gA,pV M.dk,yO M.l9,aey M.Ar] [(3,aeA)]
theorem aeC:aN I7:=aV aL _ (ae ua (ae rD (ae Dm (ae aud ay))))
theorem aug:bF I7 (bp (bD Tryz.f174) 0) aeA:=lk (cx:=I7) (sh:=ID) (run:=fun n x=>M.xA x.2.2.1.1 x.2.2.2.1.1 x.2.2.2.2.2.2.1 n x.2.1 x.2.2.2.2.2.2.2.1) (bG:=auf) aeC (fun m x=>by kernel_rfl) (ae ⟨bJ,fun _ _ _=>rfl⟩ ay)
theorem auh:au (aeB (M.xB)):=aS (cx:=I7) true aeC Tryz.func174 (hl1 aug) ⟨⟨[.el U.cz],[.el U.parser]⟩,fun x=>(x.1.1,x.2.1)⟩ (fun x=>by kernel_rfl)
def aui(y:M.ar×(List UInt8)×(List UInt8)×(List M.aG)×(List M.aG)){R:Type}(k:KT R):R:=match y with|a0=>kk k (Ex.exit 0) IE (((),((),((),()))),(a0.1,((a0.2.1,((),())),((a0.2.2.1,((),())),((),((),(a0.2.2.2.1,(a0.2.2.2.2,()))))))))
def auj:List (cn K (M.ar×(List UInt8)×(List UInt8)×(List M.aG)×(List M.aG))):=[⟨(Ex.exit 0),IE,fun x=>(x.2.1,x.2.2.1.1,x.2.2.2.1.1,x.2.2.2.2.2.2.1,x.2.2.2.2.2.2.2.1)⟩]
def aeD:bE K:=bH D false 56 5 [0,2,3] [0,2,3] IE (fun x=>M.qO x.2.2.1.1 x.2.2.2.1.1 x.2.2.2.2.2.2.1 ah x.2.1 x.2.2.2.2.2.2.2.1) aui
def aeE(m:M.ar->Option (M.aM×M.ar)):aE K:={f:=175,sh:=tY,R:=M.aM×M.ar,run:=fun x=>m x.2.1,dflt:=default,out:=fun r=>(Sh.enc D (.el U.cX) r.1,aY.encs D [.el U.parser] (r.2,()))}
def I8:Cx K:=bg [(171,.bh),(170,.bh),(208,.bh),(173,.bh),(210,.bh)] [rC M.gA,pV M.dk,yO M.l9,mj M.eE,OZ M.mP] [(3,aeD)]
theorem aeF:aN I8:=aV aL _ (ae ua (ae rD (ae Dm (ae nf (ae aes ay)))))
theorem auk:bF I8 (bp (bD Tryz.f175) 0) aeD:=lk (cx:=I8) (sh:=IE) (run:=fun n x=>M.qO x.2.2.1.1 x.2.2.2.1.1 x.2.2.2.2.2.2.1 n x.2.1 x.2.2.2.2.2.2.2.1) (bG:=auj) aeF (fun m x=>by kernel_rfl) (ae ⟨bJ,fun _ _ _=>rfl⟩ ay)
theorem aul:au (aeE (M.vf)):=aS (cx:=I8) true aeF Tryz.func175 (hl1 auk) ⟨⟨[.el U.cX],[.el U.parser]⟩,fun x=>(x.1.1,x.2.1)⟩ (fun x=>by kernel_rfl)
def jQ(m:Int->M.aC->Option (M.aa×M.aC)):aE K:={f:=198,sh:=⟨[.ptr 0 0,iq0],[.el U.dm]⟩,R:=M.aa×M.aC,run:=fun x=>m x.1.2.1 x.2.1,dflt:=default,out:=fun r=>(Sh.enc D (.el U.Term) r.1,aY.encs D [.el U.dm] (r.2,()))}
def aeG(m:Int->M.aC->Option ((List M.aa)×M.aC)):aE K:={f:=234,sh:=⟨[.ptr 0 0,iq0],[.el U.dm]⟩,R:=(List M.aa)×M.aC,run:=fun x=>m x.1.2.1 x.2.1,dflt:=default,out:=fun r=>(Sh.enc D (.an U.Term) r.1,aY.encs D [.el U.dm] (r.2,()))}
def aeH(bZ:Int->M.aC->Option (M.aa×M.aC)):Cx K:=bg [(109,.bh),(198,.bh),(106,.bh)] [mi M.dI,jQ bZ,nc M.dE] []
theorem aum(bZ:Int->M.aC->Option (M.aa×M.aC))(ji:au (jQ bZ)):aN (aeH bZ):=aV aL _ (ae nb (ae ji (ae oo ay)))
theorem aun(bZ:Int->M.aC->Option (M.aa×M.aC))(ji:au (jQ bZ)):au (aeG (M.Aj bZ)):=fR (cx:=aeH bZ) (fz:=true) aL (aum bZ ji) fP ⟨Tryz.func234,by kernel_rfl⟩ hq ⟨⟨[.an U.Term],[.el U.dm]⟩,fun x=>(x.1.1,x.2.1)⟩ (fun x=>rfl) (fun x=>by kernel_rfl)
def aeI(m:(List UInt8)->Option Bool):aE K:=cB 232 eZ (fun x=>m x.1.1)
def aeJ:Cx K:=bg [(233,.plain)] [OU M.su] []
theorem auo:aN aeJ:=aV aL _ (ae adG ay)
theorem aup:au (aeI (M.Ac)):=aS (cx:=aeJ) true auo Tryz.func232 hq ⟨zs0,fun x=>x.1.1⟩ (fun x=>by kernel_rfl)
def I9(m:M.aC->Option ((List UInt8)×M.aC)):aE K:={f:=197,sh:=m9,R:=(List UInt8)×M.aC,run:=fun x=>m x.2.1,dflt:=default,out:=fun r=>(Sh.enc D (.str) r.1,aY.encs D [.el U.dm] (r.2,()))}
def aeK:Cx K:=bg [(83,.bh),(232,.plain),(107,.bh)] [vG M.kS,aeI M.Ac,pT M.fU] []
theorem auq:aN aeK:=aV aL _ (ae yq (ae aup (ae rB ay)))
theorem O0:au (I9 (M.mL)):=aS (cx:=aeK) true auq Tryz.func197 hq ⟨OD,fun x=>(x.1.1,x.2.1)⟩ (fun x=>by kernel_rfl)
def Dp(m:Int->Int->M.aC->Option (M.aC)):aE K:={f:=235,sh:=⟨[.ptr 0 0,iq0,iq0],[.el U.dm]⟩,R:=M.aC,run:=fun x=>m x.1.2.1 x.1.2.2.1 x.2.1,dflt:=default,out:=fun r=>(Sh.enc D (.bz []) (),aY.encs D [.el U.dm] (r,()))}
def aeL:Cx K:=bg [(106,.bh)] [nc M.dE] []
theorem aur:aN aeL:=aV aL _ (ae oo ay)
theorem Ja:au (Dp (M.jJ)):=aS (cx:=aeL) true aur Tryz.func235 hq ⟨OC,fun x=>x.2.1⟩ (fun x=>by kernel_rfl)
def aus(y:(List M.aj)×Int×Bool×Int×(List UInt8)×(List (List UInt8))×(List M.aa)){R:Type}(k:KT R):R:=match y with|a0=>kk k (Ex.exit 0) ab9 ((),((a0.1,(a0.2.1,(a0.2.2.1,()))),((a0.2.2.2.1,(a0.2.2.2.2.1,((),((),())))),((),((),(a0.2.2.2.2.2.1,(a0.2.2.2.2.2.2,())))))))
def aut:List (cn K ((List M.aj)×Int×Bool×Int×(List UInt8)×(List (List UInt8))×(List M.aa))):=[⟨(Ex.exit 0),ab9,fun x=>(x.2.1.1,x.2.1.2.1,x.2.1.2.2.1,x.2.2.1.1,x.2.2.1.2.1,x.2.2.2.2.2.1,x.2.2.2.2.2.2.1)⟩]
def aeM(bZ:Int->M.aC->Option (M.aa×M.aC)):bE K:=bH D false 98 4 [0,1,2] [] aca (fun x=>M.jK bZ x.1.2.2.1 x.2.2.1.1 x.2.2.1.2.1 ah x.2.1 x.2.2.2.2.2.1 x.2.2.2.2.2.2.1) aus
def aeN(m:Int->M.aC->Int->(List UInt8)->(List (List UInt8))->(List M.aa)->Option (M.aC×Int×(List UInt8)×(List (List UInt8))×(List M.aa))):aE K:={f:=236,sh:=⟨[.ptr 0 0,.ptr 1 0,iq0],[.el U.dm,.box [iq0,.str,.own 2,.own 3],.arr U.str,.arr U.Term]⟩,R:=M.aC×Int×(List UInt8)×(List (List UInt8))×(List M.aa),run:=fun x=>m x.1.2.2.1 x.2.1 x.2.2.1.1 x.2.2.1.2.1 x.2.2.2.1 x.2.2.2.2.1,dflt:=default,out:=fun r=>(Sh.enc D (.bz []) (),aY.encs D [.el U.dm,.box [iq0,.str,.own 4,.own 5],.dead,.dead,.arr U.str,.arr U.Term] (r.1,((r.2.1,(r.2.2.1,((),((),())))),((),((),(r.2.2.2.1,(r.2.2.2.2,())))))))}
def Jb(bZ:Int->M.aC->Option (M.aa×M.aC)):Cx K:={eM with mode:=ef .plain [(106,.bh),(107,.bh),(198,.bh),(109,.bh),(235,.bh)],mv:=true,call:=callOf D [nc M.dE,pT M.fU,jQ bZ,mi M.dI,Dp M.jJ],loop:=dR [(1,aeM bZ)]}
theorem aeO(bZ:Int->M.aC->Option (M.aa×M.aC))(ji:au (jQ bZ)):aN (Jb bZ):=aV aL _ (ae oo (ae rB (ae ji (ae nb (ae Ja ay)))))
theorem auu(bZ:Int->M.aC->Option (M.aa×M.aC))(ji:au (jQ bZ)):bF (Jb bZ) (bp (bD Tryz.f236) 0) (aeM bZ):=lk (cx:=Jb bZ) (sh:=aca) (run:=fun n x=>M.jK bZ x.1.2.2.1 x.2.2.1.1 x.2.2.1.2.1 n x.2.1 x.2.2.2.2.2.1 x.2.2.2.2.2.2.1) (bG:=aut) (aeO bZ ji) (fun m x=>by kernel_rfl) (ae ⟨bJ,fun _ _ _=>rfl⟩ ay)
theorem auv(bZ:Int->M.aC->Option (M.aa×M.aC))(ji:au (jQ bZ)):au (aeN (M.mM bZ)):=fR (cx:=Jb bZ) (fz:=true) aL (aeO bZ ji) fP ⟨Tryz.func236,by kernel_rfl⟩ (hl1 (auu bZ ji)) ⟨⟨[.bz []],[.el U.dm,.box [iq0,.str,.own 4,.own 5],.dead,.dead,.arr U.str,.arr U.Term]⟩,fun x=>(x.2.1,x.2.2.1.1,x.2.2.1.2.1,x.2.2.2.2.2.1,x.2.2.2.2.2.2.1)⟩ (fun x=>rfl) (fun x=>by kernel_rfl)
def auw(y:(List M.aj)×Int×Bool×Int×(List UInt8)×Int×(List UInt8)×(List (List UInt8))×(List M.aa)×(List (List UInt8))×(List M.aa)){R:Type}(k:KT R):R:=match y with|a0=>kk k (Ex.exit 1) acb (((),((),())),((a0.1,(a0.2.1,(a0.2.2.1,()))),((a0.2.2.2.1,(a0.2.2.2.2.1,((),((),())))),((a0.2.2.2.2.2.1,(a0.2.2.2.2.2.2.1,((),((),())))),((),((),((),((),(a0.2.2.2.2.2.2.2.1,(a0.2.2.2.2.2.2.2.2.1,(a0.2.2.2.2.2.2.2.2.2.1,(a0.2.2.2.2.2.2.2.2.2.2,()))))))))))))
def auy:List (cn K ((List M.aj)×Int×Bool×Int×(List UInt8)×Int×(List UInt8)×(List (List UInt8))×(List M.aa)×(List (List UInt8))×(List M.aa))):=[⟨(Ex.exit 1),acb,fun x=>(x.2.1.1,x.2.1.2.1,x.2.1.2.2.1,x.2.2.1.1,x.2.2.1.2.1,x.2.2.2.1.1,x.2.2.2.1.2.1,x.2.2.2.2.2.2.2.2.1,x.2.2.2.2.2.2.2.2.2.1,x.2.2.2.2.2.2.2.2.2.2.1,x.2.2.2.2.2.2.2.2.2.2.2.1)⟩]
def aeP(bZ:Int->M.aC->Option (M.aa×M.aC)):bE K:=bH D false 101 7 [0,1,4,6] [4,6] acd (fun x=>M.qJ bZ x.1.2.1 x.2.2.1.1 x.2.2.1.2.1 x.2.2.2.1.1 x.2.2.2.1.2.1 x.2.2.2.2.2.2.2.2.1 x.2.2.2.2.2.2.2.2.2.1 x.2.2.2.2.2.2.2.2.2.2.1 ah x.2.1 x.2.2.2.2.2.2.2.2.2.2.2.1) auw
def Jc(bZ:Int->M.aC->Option (M.aa×M.aC)):Cx K:=bg [(107,.bh),(233,.plain),(106,.bh),(198,.bh),(234,.bh),(109,.bh),(235,.bh),(197,.bh),(236,.bh)] [pT M.fU,OU M.su,nc M.dE,jQ bZ,aeG (M.Aj bZ),I9 M.mL,aeN (M.mM bZ),mi M.dI,Dp M.jJ] [(20,aeP bZ)]
theorem aeQ(bZ:Int->M.aC->Option (M.aa×M.aC))(ji:au (jQ bZ)):aN (Jc bZ):=aV aL _ (ae rB (ae adG (ae oo (ae ji (ae (aun bZ ji) (ae O0 (ae (auv bZ ji) (ae nb (ae Ja ay)))))))))
theorem auz(bZ:Int->M.aC->Option (M.aa×M.aC))(ji:au (jQ bZ)):bF (Jc bZ) (bp (bD Tryz.f198) 0) (aeP bZ):=lk (cx:=Jc bZ) (sh:=acd) (run:=fun n x=>M.qJ bZ x.1.2.1 x.2.2.1.1 x.2.2.1.2.1 x.2.2.2.1.1 x.2.2.2.1.2.1 x.2.2.2.2.2.2.2.2.1 x.2.2.2.2.2.2.2.2.2.1 x.2.2.2.2.2.2.2.2.2.2.1 n x.2.1 x.2.2.2.2.2.2.2.2.2.2.2.1) (bG:=auy) (aeQ bZ ji) (fun m x=>by kernel_rfl) (ae ⟨bJ,fun _ _ _=>rfl⟩ ay)
theorem auA(bZ:Int->M.aC->Option (M.aa×M.aC))(ji:au (jQ bZ)):au (jQ (M.u7 bZ)):=fR (cx:=Jc bZ) (fz:=true) aL (aeQ bZ ji) fP ⟨Tryz.func198,by kernel_rfl⟩ (hl1 (auz bZ ji)) ⟨⟨[.el U.Term],[.el U.dm]⟩,fun x=>(x.1.1,x.2.1)⟩ (fun x=>rfl) (fun x=>by kernel_rfl)
theorem aeR:∀n,au (jQ (M.sD n))|0=>nE fun _=>rfl|n+1=>auA (M.sD n) (aeR n)
theorem O1:au (jQ (M.sE)):=aeR ah
def aeS(y:(List M.aj)×Int×Bool×(List UInt8)×(List UInt8)×(List UInt8)×(List UInt8)×(List M.aD)×(List M.aM)×(List M.aD)×(List M.aM)){R:Type}(k:KT R):R:=match y with|a0=>kk k (Ex.exit 0) abD (((),((),())),((a0.1,(a0.2.1,(a0.2.2.1,()))),((a0.2.2.2.1,(a0.2.2.2.2.1,((),((),())))),((a0.2.2.2.2.2.1,(a0.2.2.2.2.2.2.1,((),((),())))),((),((),((),((),(a0.2.2.2.2.2.2.2.1,(a0.2.2.2.2.2.2.2.2.1,(a0.2.2.2.2.2.2.2.2.2.1,(a0.2.2.2.2.2.2.2.2.2.2,()))))))))))))
def aeT:List (cn K ((List M.aj)×Int×Bool×(List UInt8)×(List UInt8)×(List UInt8)×(List UInt8)×(List M.aD)×(List M.aM)×(List M.aD)×(List M.aM))):=[⟨(Ex.exit 0),abD,fun x=>(x.2.1.1,x.2.1.2.1,x.2.1.2.2.1,x.2.2.1.1,x.2.2.1.2.1,x.2.2.2.1.1,x.2.2.2.1.2.1,x.2.2.2.2.2.2.2.2.1,x.2.2.2.2.2.2.2.2.2.1,x.2.2.2.2.2.2.2.2.2.2.1,x.2.2.2.2.2.2.2.2.2.2.2.1)⟩]
def aeU:bE K:=bH D false 72 7 [0,2,3] [2,3] ace (fun x=>M.jM x.2.2.1.1 x.2.2.1.2.1 x.2.2.2.1.1 x.2.2.2.1.2.1 x.2.2.2.2.2.2.2.2.1 x.2.2.2.2.2.2.2.2.2.1 ah x.2.1 x.2.2.2.2.2.2.2.2.2.2.1 x.2.2.2.2.2.2.2.2.2.2.2.1) aeS
def aeV(m:M.ar->Option ((List UInt8)×(List UInt8)×M.ar×(List M.aD)×(List M.aM))):aE K:={f:=124,sh:=tY,R:=(List UInt8)×(List UInt8)×M.ar×(List M.aD)×(List M.aM),run:=fun x=>m x.2.1,dflt:=default,out:=fun r=>(Sh.enc D (.agg [.str,.str,.own 1,.own 2]) (r.1,(r.2.1,((),((),())))),aY.encs D [.el U.parser,.arr U.cz,.arr U.cX] (r.2.2.1,(r.2.2.2.1,(r.2.2.2.2,()))))}
def Jd:Cx K:={eM with mode:=ef .plain [(170,.bh),(171,.bh),(172,.bh),(173,.bh),(174,.bh),(175,.bh)],ik:=[[none,none,some U.cz,some U.cX]],call:=callOf D [pV M.dk,rC M.gA,OY M.sy,mj M.eE,aeB M.xB,aeE M.vf],loop:=dR [(7,aeU)]}
theorem aeW:aN Jd:=aV aL _ (ae rD (ae ua (ae aeh (ae nf (ae auh (ae aul ay))))))
theorem auB:bF Jd (bp (bD Tryz.f124) 0) aeU:=lk (cx:=Jd) (sh:=ace) (run:=fun n x=>M.jM x.2.2.1.1 x.2.2.1.2.1 x.2.2.2.1.1 x.2.2.2.1.2.1 x.2.2.2.2.2.2.2.2.1 x.2.2.2.2.2.2.2.2.2.1 n x.2.1 x.2.2.2.2.2.2.2.2.2.2.1 x.2.2.2.2.2.2.2.2.2.2.2.1) (bG:=aeT) aeW (fun m x=>by kernel_rfl) (ae ⟨bJ,fun _ _ _=>rfl⟩ ay)
theorem auC:au (aeV (M.Ax)):=aS (cx:=Jd) false aeW Tryz.func124 (hl1 auB) ⟨⟨[.agg [.str,.str,.own 1,.own 2]],[.el U.parser,.arr U.cz,.arr U.cX]⟩,fun x=>(x.1.1.1,x.1.1.2.1,x.2.1,x.2.2.1,x.2.2.2.1)⟩ (fun x=>by kernel_rfl)
def aeX(m:M.ar->(List UInt8)->(List UInt8)->(List M.aD)->(List M.aM)->Option (M.ar×(List UInt8)×(List UInt8)×(List M.aD)×(List M.aM))):aE K:={f:=123,sh:=⟨[.ptr 0 0,.ptr 1 0],[.el U.parser,.box [.str,.str,.own 2,.own 3],.arr U.cz,.arr U.cX]⟩,R:=M.ar×(List UInt8)×(List UInt8)×(List M.aD)×(List M.aM),run:=fun x=>m x.2.1 x.2.2.1.1 x.2.2.1.2.1 x.2.2.2.1 x.2.2.2.2.1,dflt:=default,out:=fun r=>(Sh.enc D (.bz []) (),aY.encs D [.el U.parser,.box [.str,.str,.own 4,.own 5],.dead,.dead,.arr U.cz,.arr U.cX] (r.1,((r.2.1,(r.2.2.1,((),((),())))),((),((),(r.2.2.2.1,(r.2.2.2.2,())))))))}
def aeY:Cx K:={eM with mode:=ef .plain [(124,.bh)],mv:=true,call:=callOf D [aeV M.Ax],loop:=dR []}
theorem auD:aN aeY:=aV aL _ (ae auC ay)
theorem auE:au (aeX (M.Az)):=aS (cx:=aeY) true auD Tryz.func123 hq ⟨⟨[.bz []],[.el U.parser,.box [.str,.str,.own 4,.own 5],.dead,.dead,.arr U.cz,.arr U.cX]⟩,fun x=>(x.2.1,x.2.2.1.1,x.2.2.1.2.1,x.2.2.2.2.2.1,x.2.2.2.2.2.2.1)⟩ (fun x=>by kernel_rfl)
def aeZ(m:(List UInt8)->(List UInt8)->(List UInt8)->(List M.aD)->(List M.aM)->Option (Int×Int×(List UInt8)×(List UInt8)×(List M.aD)×(List M.aM))):aE K:={f:=122,sh:=⟨[.str,.fn 123 [.ptr 0 0]],[.box [.str,.str,.own 1,.own 2],.arr U.cz,.arr U.cX]⟩,R:=Int×Int×(List UInt8)×(List UInt8)×(List M.aD)×(List M.aM),run:=fun x=>m x.1.1 x.2.1.1 x.2.1.2.1 x.2.2.1 x.2.2.2.1,dflt:=default,out:=fun r=>(Sh.enc D (.bz [iq0,iq0]) (r.1,(r.2.1,())),aY.encs D [.box [.str,.str,.own 3,.own 4],.dead,.dead,.arr U.cz,.arr U.cX] ((r.2.2.1,(r.2.2.2.1,((),((),())))),((),((),(r.2.2.2.2.1,(r.2.2.2.2.2,()))))))}
def ae0:Cx K:={eM with mode:=ef .plain [(169,.jG),(123,.bh)],mv:=true,call:=callOf D [adz M.zW,aeX M.Az],loop:=dR []}
theorem auF:aN ae0:=aV aL _ (ae as9 (ae auE ay))
theorem auG:au (aeZ (M.oY)):=aS (cx:=ae0) true auF Tryz.func122 hq ⟨⟨[.bz [iq0,iq0]],[.box [.str,.str,.own 3,.own 4],.dead,.dead,.arr U.cz,.arr U.cX]⟩,fun x=>(x.1.1.1,x.1.1.2.1,x.2.1.1,x.2.1.2.1,x.2.2.2.2.1,x.2.2.2.2.2.1)⟩ (fun x=>by kernel_rfl)
def ae1(m:M.aO->Option ((List UInt8))):aE K:=cS 176 HM (fun x=>m x.1.1)
theorem auH:au (ae1 (M.AA)):=aS (cx:=fy) true fG Tryz.func176 hq ⟨eZ,fun x=>x.1.1⟩ (fun x=>by kernel_rfl)
def auI(y:(List M.aD)×Int×Int×(List M.af)×Int×Int×M.ai×M.aD×(List (List UInt8))×(List (List UInt8))×(List (List UInt8))×(List (List UInt8))){R:Type}(k:KT R):R:=match y with|a0=>kk k (Ex.exit 5) IF (((),((),((),((),((),((),(a0.1,(a0.2.1,(a0.2.2.1,(a0.2.2.2.1,(a0.2.2.2.2.1,(a0.2.2.2.2.2.1,())))))))))))),(a0.2.2.2.2.2.2.1,((),((),(a0.2.2.2.2.2.2.2.1,((),((),(a0.2.2.2.2.2.2.2.2.1,(a0.2.2.2.2.2.2.2.2.2.1,(a0.2.2.2.2.2.2.2.2.2.2.1,(a0.2.2.2.2.2.2.2.2.2.2.2,())))))))))))
def auJ:List (cn K ((List M.aD)×Int×Int×(List M.af)×Int×Int×M.ai×M.aD×(List (List UInt8))×(List (List UInt8))×(List (List UInt8))×(List (List UInt8)))):=[⟨(Ex.exit 5),IF,fun x=>(x.1.2.2.2.2.2.2.1,x.1.2.2.2.2.2.2.2.1,x.1.2.2.2.2.2.2.2.2.1,x.1.2.2.2.2.2.2.2.2.2.1,x.1.2.2.2.2.2.2.2.2.2.2.1,x.1.2.2.2.2.2.2.2.2.2.2.2.1,x.2.1,x.2.2.2.2.1,x.2.2.2.2.2.2.2.1,x.2.2.2.2.2.2.2.2.1,x.2.2.2.2.2.2.2.2.2.1,x.2.2.2.2.2.2.2.2.2.2.1)⟩]
def ae2:bE K:=bH D false 96 6 [1,3,4,6,7,8,18,19,20,27,28,29,50,51,52] [1,3,4,6,7,8,18,19,20,27,28,29] acf (fun x=>M.xG x.1.2.2.2.2.2.2.1 x.1.2.2.2.2.2.2.2.1 x.1.2.2.2.2.2.2.2.2.1 x.1.2.2.2.2.2.2.2.2.2.1 x.1.2.2.2.2.2.2.2.2.2.2.1 x.1.2.2.2.2.2.2.2.2.2.2.2.1 x.1.2.2.2.2.2.2.2.2.2.2.2.2.1 x.1.2.2.2.2.2.2.2.2.2.2.2.2.2.1 x.2.1 x.2.2.2.2.1 x.2.2.2.2.2.2.2.1 x.2.2.2.2.2.2.2.2.1 x.2.2.2.2.2.2.2.2.2.1 ah x.1.2.2.2.2.2.2.2.2.2.2.2.2.2.2.1 x.2.2.2.2.2.2.2.2.2.2.1) auI
def auK(y:(List M.aD)×Int×Int×M.ai×M.aD×(List (List UInt8))×(List (List UInt8))×(List (List UInt8))×(List (List UInt8))){R:Type}(k:KT R):R:=match y with|a0=>kk k (Ex.exit 2) acg (((),((),((),((),((),((),(a0.1,(a0.2.1,(a0.2.2.1,()))))))))),(a0.2.2.2.1,((),((),(a0.2.2.2.2.1,((),((),(a0.2.2.2.2.2.1,(a0.2.2.2.2.2.2.1,(a0.2.2.2.2.2.2.2.1,(a0.2.2.2.2.2.2.2.2,())))))))))))
def auL:List (cn K ((List M.aD)×Int×Int×M.ai×M.aD×(List (List UInt8))×(List (List UInt8))×(List (List UInt8))×(List (List UInt8)))):=[⟨(Ex.exit 2),acg,fun x=>(x.1.2.2.2.2.2.2.1,x.1.2.2.2.2.2.2.2.1,x.1.2.2.2.2.2.2.2.2.1,x.2.1,x.2.2.2.2.1,x.2.2.2.2.2.2.2.1,x.2.2.2.2.2.2.2.2.1,x.2.2.2.2.2.2.2.2.2.1,x.2.2.2.2.2.2.2.2.2.2.1)⟩]
def ae3:bE K:=bH D false 96 6 [1,3,4,6,7,8,18,19,20,27,28,29] [1,3,4,6,7,8,18,19,20] IF (fun x=>M.sM ah x.1.2.2.2.2.2.2.1 x.1.2.2.2.2.2.2.2.1 x.1.2.2.2.2.2.2.2.2.1 x.1.2.2.2.2.2.2.2.2.2.1 x.1.2.2.2.2.2.2.2.2.2.2.1 x.1.2.2.2.2.2.2.2.2.2.2.2.1 x.2.1 x.2.2.2.2.1 x.2.2.2.2.2.2.2.1 x.2.2.2.2.2.2.2.2.1 x.2.2.2.2.2.2.2.2.2.1 x.2.2.2.2.2.2.2.2.2.2.1) auK
def Vu(y:Bool⊕(M.ai×(List (List UInt8))×(List (List UInt8)))){R:Type}(k:KT R):R:=match y with|.inl a0=>kk k Ex.ret abE (((),((),((),(a0,())))),((),((),((),((),((),()))))))|.inr a1=>kk k (Ex.exit 0) abG (((),((),((),((),())))),(a1.1,((),((),(a1.2.1,(a1.2.2,()))))))
def Vy:List (cn K ((Bool)⊕(M.ai×(List (List UInt8))×(List (List UInt8))))):=[⟨Ex.ret,abE,fun x=>.inl x.1.2.2.2.1⟩,⟨(Ex.exit 0),abG,fun x=>.inr ((x.2.1,x.2.2.2.2.1,x.2.2.2.2.2.1))⟩]
def ae4:bE K:=bH D false 96 3 [1,3,4,18,19,20] [1,3,4,2] ach (fun x=>M.xJ ah x.1.2.2.2.1 x.1.2.2.2.2.1 x.1.2.2.2.2.2.1 x.2.1 x.2.2.2.2.1 x.2.2.2.2.2.1) Vu
def auM(y:(List (List UInt8))×(List (List UInt8))){R:Type}(k:KT R):R:=match y with|a0=>kk k (Ex.exit 7) aci (((),((),())),((),((),(a0.1,(a0.2,())))))
def auN:List (cn K ((List (List UInt8))×(List (List UInt8)))):=[⟨(Ex.exit 7),aci,fun x=>(x.2.2.2.1,x.2.2.2.2.1)⟩]
def ae5:bE K:=bH D false 96 2 [3,4,78,79,80] [3,4] acj (fun x=>M.xK x.1.2.2.1 x.1.2.2.2.1 x.2.2.2.1 ah x.1.2.2.2.2.1 x.2.2.2.2.1) auM
def ae6(m:M.ai->Option Bool):aE K:=cB 125 rq (fun x=>m x.1.1)
def pW:Cx K:=bg [(176,.plain),(177,.plain)] [ae1 M.AA,L6 M.nF] [(15,ae2),(7,ae3),(3,ae4),(25,ae5)]
theorem Dq:aN pW:=aV aL _ (ae auH (ae aiu ay))
theorem auO:bF pW (bp (bp (bp (bD Tryz.f125) 0) 0) 0) ae2:=lk (cx:=pW) (sh:=acf) (run:=fun n x=>M.xG x.1.2.2.2.2.2.2.1 x.1.2.2.2.2.2.2.2.1 x.1.2.2.2.2.2.2.2.2.1 x.1.2.2.2.2.2.2.2.2.2.1 x.1.2.2.2.2.2.2.2.2.2.2.1 x.1.2.2.2.2.2.2.2.2.2.2.2.1 x.1.2.2.2.2.2.2.2.2.2.2.2.2.1 x.1.2.2.2.2.2.2.2.2.2.2.2.2.2.1 x.2.1 x.2.2.2.2.1 x.2.2.2.2.2.2.2.1 x.2.2.2.2.2.2.2.2.1 x.2.2.2.2.2.2.2.2.2.1 n x.1.2.2.2.2.2.2.2.2.2.2.2.2.2.2.1 x.2.2.2.2.2.2.2.2.2.2.1) (bG:=auJ) Dq (fun m x=>by kernel_rfl) (ae ⟨bJ,fun _ _ _=>rfl⟩ ay)
theorem auP:bF pW (bp (bp (bD Tryz.f125) 0) 0) ae3:=lk (cx:=pW) (sh:=IF) (run:=fun n x=>M.sM n x.1.2.2.2.2.2.2.1 x.1.2.2.2.2.2.2.2.1 x.1.2.2.2.2.2.2.2.2.1 x.1.2.2.2.2.2.2.2.2.2.1 x.1.2.2.2.2.2.2.2.2.2.2.1 x.1.2.2.2.2.2.2.2.2.2.2.2.1 x.2.1 x.2.2.2.2.1 x.2.2.2.2.2.2.2.1 x.2.2.2.2.2.2.2.2.1 x.2.2.2.2.2.2.2.2.2.1 x.2.2.2.2.2.2.2.2.2.2.1) (bG:=auL) Dq (fun m x=>by kernel_rfl) (ae ⟨bJ,fun _ _ _=>rfl⟩ ay) (hl:=(afH 1 (by kernel_rfl) (ju (.mk (by kernel_rfl) auO))))
theorem auQ:bF pW (bp (bD Tryz.f125) 0) ae4:=lk (cx:=pW) (sh:=ach) (run:=fun n x=>M.xJ n x.1.2.2.2.1 x.1.2.2.2.2.1 x.1.2.2.2.2.2.1 x.2.1 x.2.2.2.2.1 x.2.2.2.2.2.1) (bG:=Vy) Dq (fun m x=>by kernel_rfl) (ae ⟨cO,fun _ _ _=>rfl⟩ (ae ⟨bJ,fun _ _ _=>rfl⟩ ay)) (hl:=(afH 1 (by kernel_rfl) (ju (.mk (by kernel_rfl) auP))))
theorem auR:bF pW (bp (bD Tryz.f125) 1) ae5:=lk (cx:=pW) (sh:=acj) (run:=fun n x=>M.xK x.1.2.2.1 x.1.2.2.2.1 x.2.2.2.1 n x.1.2.2.2.2.1 x.2.2.2.2.1) (bG:=auN) Dq (fun m x=>by kernel_rfl) (ae ⟨bJ,fun _ _ _=>rfl⟩ ay)
theorem auS:au (ae6 (M.AD)):=aS (cx:=pW) true Dq Tryz.func125 (hl2 auQ auR) ⟨zs0,fun x=>x.1.1⟩ (fun x=>by kernel_rfl)
def Xx(m:(List UInt8)->Option (M.ai×Int×Int)):aE K:={f:=92,sh:=eZ,R:=M.ai×Int×Int,run:=fun x=>m x.1.1,dflt:=default,out:=fun r=>(Sh.enc D (.bz [.el U.aJ,iq0,iq0]) (r.1,(r.2.1,(r.2.2,()))),aY.encs D [] ())}
def ae7:Cx K:=bg [(122,.bh),(125,.plain)] [aeZ M.oY,ae6 M.AD] []
theorem auT:aN ae7:=aV aL _ (ae auG (ae auS ay))
theorem aol:au (Xx (M.AI)):=aS (cx:=ae7) true auT Tryz.func92 hq ⟨VD,fun x=>(x.1.1.1,x.1.1.2.1,x.1.1.2.2.1)⟩ (fun x=>by kernel_rfl)
def O2(m:M.aC->Option ((List UInt8)×M.aC)):aE K:={f:=108,sh:=m9,R:=(List UInt8)×M.aC,run:=fun x=>m x.2.1,dflt:=default,out:=fun r=>(Sh.enc D (.str) r.1,aY.encs D [.el U.dm] (r.2,()))}
def ae8:Cx K:=bg [(83,.bh),(31,.plain),(152,.bh)] [vG M.kS,Oy M.vB,IY M.qE] []
theorem auU:aN ae8:=aV aL _ (ae yq (ae abd (ae OT ay)))
theorem ae9:au (O2 (M.sB)):=aS (cx:=ae8) true auU Tryz.func108 hq ⟨OD,fun x=>(x.1.1,x.2.1)⟩ (fun x=>by kernel_rfl)
def auV(y:(List M.aj)×Int×Bool×(List M.aA)){R:Type}(k:KT R):R:=match y with|a0=>kk k (Ex.exit 0) ack (((),()),((a0.1,(a0.2.1,(a0.2.2.1,()))),((),(a0.2.2.2,()))))
def auW:List (cn K ((List M.aj)×Int×Bool×(List M.aA))):=[⟨(Ex.exit 0),ack,fun x=>(x.2.1.1,x.2.1.2.1,x.2.1.2.2.1,x.2.2.2.1)⟩]
def afa:bE K:=bH D false 35 2 [0,3] [3] acm (fun x=>M.mQ ah x.2.1 x.2.2.2.1) auV
def afb(m:M.aC->Option ((List M.aA)×M.aC)):aE K:={f:=231,sh:=m9,R:=(List M.aA)×M.aC,run:=fun x=>m x.2.1,dflt:=default,out:=fun r=>(Sh.enc D (.an U.cY) r.1,aY.encs D [.el U.dm] (r.2,()))}
def Je:Cx K:=bg [(106,.bh),(109,.bh),(107,.bh),(198,.bh),(235,.bh)] [nc M.dE,mi M.dI,pT M.fU,jQ M.sE,Dp M.jJ] [(5,afa)]
theorem afc:aN Je:=aV aL _ (ae oo (ae nb (ae rB (ae O1 (ae Ja ay)))))
theorem auX:bF Je (bp (bD Tryz.f231) 0) afa:=lk (cx:=Je) (sh:=acm) (run:=fun n x=>M.mQ n x.2.1 x.2.2.2.1) (bG:=auW) afc (fun m x=>by kernel_rfl) (ae ⟨bJ,fun _ _ _=>rfl⟩ ay)
theorem auY:au (afb (M.Ap)):=aS (cx:=Je) true afc Tryz.func231 (hl1 auX) ⟨⟨[.an U.cY],[.el U.dm]⟩,fun x=>(x.1.1,x.2.1)⟩ (fun x=>by kernel_rfl)
def afd(m:(List UInt8)->M.aC->Option (M.af×M.aC)):aE K:={f:=196,sh:=Iz,R:=M.af×M.aC,run:=fun x=>m x.1.2.1 x.2.1,dflt:=default,out:=fun r=>(Sh.enc D (.el U.Item) r.1,aY.encs D [.el U.dm] (r.2,()))}
def afe:Cx K:=bg [(109,.bh),(106,.bh),(231,.bh),(198,.bh)] [mi M.dI,nc M.dE,afb M.Ap,jQ M.sE] []
theorem auZ:aN afe:=aV aL _ (ae nb (ae oo (ae auY (ae O1 ay))))
theorem au0:au (afd (M.Aq)):=aS (cx:=afe) true auZ Tryz.func196 hq ⟨OF,fun x=>(x.1.1,x.2.1)⟩ (fun x=>by kernel_rfl)
def O3(m:M.aC->Option (M.aQ×M.aC)):aE K:={f:=155,sh:=m9,R:=M.aQ×M.aC,run:=fun x=>m x.2.1,dflt:=default,out:=fun r=>(Sh.enc D (.el U.Path) r.1,aY.encs D [.el U.dm] (r.2,()))}
def aff:Cx K:=bg [(107,.bh),(109,.bh),(108,.bh)] [pT M.fU,mi M.dI,O2 M.sB] []
theorem au1:aN aff:=aV aL _ (ae rB (ae nb (ae ae9 ay)))
theorem afg:au (O3 (M.lL)):=aS (cx:=aff) true au1 Tryz.func155 hq ⟨⟨[.el U.Path],[.el U.dm]⟩,fun x=>(x.1.1,x.2.1)⟩ (fun x=>by kernel_rfl)
def au2(y:(List M.aj)×Int×Bool×Int×(List UInt8)×Int×(List UInt8)×Bool×(List UInt8)×(List UInt8)×(List UInt8)×Int×(List UInt8)×Int×(List UInt8)×Bool×(List UInt8)×(List UInt8)×(List UInt8)×(List (List UInt8))×(List M.aa)×(List M.aA)×(List M.aO)×(List (List UInt8))×(List M.aa)×(List M.aA)×(List M.aO)){R:Type}(k:KT R):R:=match y with|a0=>kk k (Ex.exit 0) acn (((),((),())),((a0.1,(a0.2.1,(a0.2.2.1,()))),((a0.2.2.2.1,(a0.2.2.2.2.1,(a0.2.2.2.2.2.1,(a0.2.2.2.2.2.2.1,((),((),((),(a0.2.2.2.2.2.2.2.1,(a0.2.2.2.2.2.2.2.2.1,(a0.2.2.2.2.2.2.2.2.2.1,(a0.2.2.2.2.2.2.2.2.2.2.1,((),())))))))))))),((a0.2.2.2.2.2.2.2.2.2.2.2.1,(a0.2.2.2.2.2.2.2.2.2.2.2.2.1,(a0.2.2.2.2.2.2.2.2.2.2.2.2.2.1,(a0.2.2.2.2.2.2.2.2.2.2.2.2.2.2.1,((),((),((),(a0.2.2.2.2.2.2.2.2.2.2.2.2.2.2.2.1,(a0.2.2.2.2.2.2.2.2.2.2.2.2.2.2.2.2.1,(a0.2.2.2.2.2.2.2.2.2.2.2.2.2.2.2.2.2.1,(a0.2.2.2.2.2.2.2.2.2.2.2.2.2.2.2.2.2.2.1,((),())))))))))))),((),((),((),((),((),((),((),((),(a0.2.2.2.2.2.2.2.2.2.2.2.2.2.2.2.2.2.2.2.1,(a0.2.2.2.2.2.2.2.2.2.2.2.2.2.2.2.2.2.2.2.2.1,(a0.2.2.2.2.2.2.2.2.2.2.2.2.2.2.2.2.2.2.2.2.2.1,(a0.2.2.2.2.2.2.2.2.2.2.2.2.2.2.2.2.2.2.2.2.2.2.1,(a0.2.2.2.2.2.2.2.2.2.2.2.2.2.2.2.2.2.2.2.2.2.2.2.1,(a0.2.2.2.2.2.2.2.2.2.2.2.2.2.2.2.2.2.2.2.2.2.2.2.2.1,(a0.2.2.2.2.2.2.2.2.2.2.2.2.2.2.2.2.2.2.2.2.2.2.2.2.2.1,(a0.2.2.2.2.2.2.2.2.2.2.2.2.2.2.2.2.2.2.2.2.2.2.2.2.2.2,()))))))))))))))))))))
def au3:List (cn K ((List M.aj)×Int×Bool×Int×(List UInt8)×Int×(List UInt8)×Bool×(List UInt8)×(List UInt8)×(List UInt8)×Int×(List UInt8)×Int×(List UInt8)×Bool×(List UInt8)×(List UInt8)×(List UInt8)×(List (List UInt8))×(List M.aa)×(List M.aA)×(List M.aO)×(List (List UInt8))×(List M.aa)×(List M.aA)×(List M.aO))):=[⟨(Ex.exit 0),acn,fun x=>(x.2.1.1,x.2.1.2.1,x.2.1.2.2.1,x.2.2.1.1,x.2.2.1.2.1,x.2.2.1.2.2.1,x.2.2.1.2.2.2.1,x.2.2.1.2.2.2.2.2.2.2.1,x.2.2.1.2.2.2.2.2.2.2.2.1,x.2.2.1.2.2.2.2.2.2.2.2.2.1,x.2.2.1.2.2.2.2.2.2.2.2.2.2.1,x.2.2.2.1.1,x.2.2.2.1.2.1,x.2.2.2.1.2.2.1,x.2.2.2.1.2.2.2.1,x.2.2.2.1.2.2.2.2.2.2.2.1,x.2.2.2.1.2.2.2.2.2.2.2.2.1,x.2.2.2.1.2.2.2.2.2.2.2.2.2.1,x.2.2.2.1.2.2.2.2.2.2.2.2.2.2.1,x.2.2.2.2.2.2.2.2.2.2.2.2.1,x.2.2.2.2.2.2.2.2.2.2.2.2.2.1,x.2.2.2.2.2.2.2.2.2.2.2.2.2.2.1,x.2.2.2.2.2.2.2.2.2.2.2.2.2.2.2.1,x.2.2.2.2.2.2.2.2.2.2.2.2.2.2.2.2.1,x.2.2.2.2.2.2.2.2.2.2.2.2.2.2.2.2.2.1,x.2.2.2.2.2.2.2.2.2.2.2.2.2.2.2.2.2.2.1,x.2.2.2.2.2.2.2.2.2.2.2.2.2.2.2.2.2.2.2.1)⟩]
def afh:bE K:=bH D false 39 11 [0,2,3] [2,3] aco (fun x=>M.lM x.2.2.1.1 x.2.2.1.2.1 x.2.2.1.2.2.1 x.2.2.1.2.2.2.1 x.2.2.1.2.2.2.2.2.2.2.1 x.2.2.1.2.2.2.2.2.2.2.2.1 x.2.2.1.2.2.2.2.2.2.2.2.2.1 x.2.2.1.2.2.2.2.2.2.2.2.2.2.1 x.2.2.2.1.1 x.2.2.2.1.2.1 x.2.2.2.1.2.2.1 x.2.2.2.1.2.2.2.1 x.2.2.2.1.2.2.2.2.2.2.2.1 x.2.2.2.1.2.2.2.2.2.2.2.2.1 x.2.2.2.1.2.2.2.2.2.2.2.2.2.1 x.2.2.2.1.2.2.2.2.2.2.2.2.2.2.1 x.2.2.2.2.2.2.2.2.2.2.2.2.1 x.2.2.2.2.2.2.2.2.2.2.2.2.2.1 x.2.2.2.2.2.2.2.2.2.2.2.2.2.2.1 x.2.2.2.2.2.2.2.2.2.2.2.2.2.2.2.1 x.2.2.2.2.2.2.2.2.2.2.2.2.2.2.2.2.1 x.2.2.2.2.2.2.2.2.2.2.2.2.2.2.2.2.2.1 x.2.2.2.2.2.2.2.2.2.2.2.2.2.2.2.2.2.2.1 ah x.2.1 x.2.2.2.2.2.2.2.2.2.2.2.2.2.2.2.2.2.2.2.1) au2
def afi(m:M.aC->Option (M.af×M.aC)):aE K:={f:=199,sh:=m9,R:=M.af×M.aC,run:=fun x=>m x.2.1,dflt:=default,out:=fun r=>(Sh.enc D (.el U.Item) r.1,aY.encs D [.el U.dm] (r.2,()))}
def Jf:Cx K:=bg [(155,.bh),(106,.bh),(197,.bh),(109,.bh),(235,.bh)] [O3 M.lL,nc M.dE,I9 M.mL,mi M.dI,Dp M.jJ] [(4,afh)]
theorem afj:aN Jf:=aV aL _ (ae afg (ae oo (ae O0 (ae nb (ae Ja ay)))))
theorem au4:bF Jf (bp (bD Tryz.f199) 0) afh:=lk (cx:=Jf) (sh:=aco) (run:=fun n x=>M.lM x.2.2.1.1 x.2.2.1.2.1 x.2.2.1.2.2.1 x.2.2.1.2.2.2.1 x.2.2.1.2.2.2.2.2.2.2.1 x.2.2.1.2.2.2.2.2.2.2.2.1 x.2.2.1.2.2.2.2.2.2.2.2.2.1 x.2.2.1.2.2.2.2.2.2.2.2.2.2.1 x.2.2.2.1.1 x.2.2.2.1.2.1 x.2.2.2.1.2.2.1 x.2.2.2.1.2.2.2.1 x.2.2.2.1.2.2.2.2.2.2.2.1 x.2.2.2.1.2.2.2.2.2.2.2.2.1 x.2.2.2.1.2.2.2.2.2.2.2.2.2.1 x.2.2.2.1.2.2.2.2.2.2.2.2.2.2.1 x.2.2.2.2.2.2.2.2.2.2.2.2.1 x.2.2.2.2.2.2.2.2.2.2.2.2.2.1 x.2.2.2.2.2.2.2.2.2.2.2.2.2.2.1 x.2.2.2.2.2.2.2.2.2.2.2.2.2.2.2.1 x.2.2.2.2.2.2.2.2.2.2.2.2.2.2.2.2.1 x.2.2.2.2.2.2.2.2.2.2.2.2.2.2.2.2.2.1 x.2.2.2.2.2.2.2.2.2.2.2.2.2.2.2.2.2.2.1 n x.2.1 x.2.2.2.2.2.2.2.2.2.2.2.2.2.2.2.2.2.2.2.1) (bG:=au3) afj (fun m x=>by kernel_rfl) (ae ⟨bJ,fun _ _ _=>rfl⟩ ay)
theorem au5:au (afi (M.Au)):=aS (cx:=Jf) true afj Tryz.func199 (hl1 au4) ⟨OF,fun x=>(x.1.1,x.2.1)⟩ (fun x=>by kernel_rfl)
def afk(m:M.aC->Option (M.af×M.aC)):aE K:={f:=154,sh:=m9,R:=M.af×M.aC,run:=fun x=>m x.2.1,dflt:=default,out:=fun r=>(Sh.enc D (.el U.Item) r.1,aY.encs D [.el U.dm] (r.2,()))}
def afl:Cx K:=bg [(107,.bh),(109,.bh),(196,.bh),(197,.bh),(106,.bh),(198,.bh),(199,.bh)] [pT M.fU,mi M.dI,afd M.Aq,nc M.dE,I9 M.mL,jQ M.sE,afi M.Au] []
theorem au6:aN afl:=aV aL _ (ae rB (ae nb (ae au0 (ae oo (ae O0 (ae O1 (ae au5 ay)))))))
theorem au7:au (afk (M.Av)):=aS (cx:=afl) true au6 Tryz.func154 hq ⟨OF,fun x=>(x.1.1,x.2.1)⟩ (fun x=>by kernel_rfl)
def au8(y:(List M.aj)×Int×Bool×(List UInt8)×(List UInt8)×(List M.af)×(List M.af)){R:Type}(k:KT R):R:=match y with|a0=>kk k (Ex.exit 0) acp (((),((),())),((a0.1,(a0.2.1,(a0.2.2.1,()))),((a0.2.2.2.1,((),())),((a0.2.2.2.2.1,((),())),((),((),(a0.2.2.2.2.2.1,(a0.2.2.2.2.2.2,()))))))))
def au9:List (cn K ((List M.aj)×Int×Bool×(List UInt8)×(List UInt8)×(List M.af)×(List M.af))):=[⟨(Ex.exit 0),acp,fun x=>(x.2.1.1,x.2.1.2.1,x.2.1.2.2.1,x.2.2.1.1,x.2.2.2.1.1,x.2.2.2.2.2.2.1,x.2.2.2.2.2.2.2.1)⟩]
def afm:bE K:=bH D false 34 5 [0,2,3] [2,3] acr (fun x=>M.sH x.2.2.1.1 x.2.2.2.1.1 x.2.2.2.2.2.2.1 ah x.2.1 x.2.2.2.2.2.2.2.1) au8
def afn(m:M.aC->Option (M.aD×M.aC)):aE K:={f:=110,sh:=m9,R:=M.aD×M.aC,run:=fun x=>m x.2.1,dflt:=default,out:=fun r=>(Sh.enc D (.el U.cz) r.1,aY.encs D [.el U.dm] (r.2,()))}
def Jg:Cx K:=bg [(107,.bh),(106,.bh),(109,.bh),(154,.bh)] [pT M.fU,nc M.dE,mi M.dI,afk M.Av] [(3,afm)]
theorem afo:aN Jg:=aV aL _ (ae rB (ae oo (ae nb (ae au7 ay))))
theorem ava:bF Jg (bp (bD Tryz.f110) 0) afm:=lk (cx:=Jg) (sh:=acr) (run:=fun n x=>M.sH x.2.2.1.1 x.2.2.2.1.1 x.2.2.2.2.2.2.1 n x.2.1 x.2.2.2.2.2.2.2.1) (bG:=au9) afo (fun m x=>by kernel_rfl) (ae ⟨bJ,fun _ _ _=>rfl⟩ ay)
theorem avb:au (afn (M.xC)):=aS (cx:=Jg) true afo Tryz.func110 (hl1 ava) ⟨⟨[.el U.cz],[.el U.dm]⟩,fun x=>(x.1.1,x.2.1)⟩ (fun x=>by kernel_rfl)
def Og(m:Option ((List (List UInt8)))):aE K:={f:=86,sh:=⟨[],[]⟩,R:=(List (List UInt8)),run:=fun x=>m,dflt:=default,out:=fun r=>(Sh.enc D (.an U.str) r,aY.encs D [] ())}
theorem XQ:au (Og (M.jC)):=aS (cx:=fy) true fG Tryz.func86 hq ⟨yn,fun x=>x.1.1⟩ (fun x=>by kernel_rfl)
def avc(y:M.aC×(List UInt8)×(List UInt8)×M.aG×(List M.aG)×(List M.aG)){R:Type}(k:KT R):R:=match y with|a0=>kk k (Ex.exit 2) acs (((),((),((),((),())))),(a0.1,((a0.2.1,((),())),((a0.2.2.1,((),())),(a0.2.2.2.1,((),((),(a0.2.2.2.2.1,(a0.2.2.2.2.2,())))))))))
def avd:List (cn K (M.aC×(List UInt8)×(List UInt8)×M.aG×(List M.aG)×(List M.aG))):=[⟨(Ex.exit 2),acs,fun x=>(x.2.1,x.2.2.1.1,x.2.2.2.1.1,x.2.2.2.2.1,x.2.2.2.2.2.2.2.1,x.2.2.2.2.2.2.2.2.1)⟩]
def afp:bE K:=bH D false 71 6 [0,2,3,4,5] [0,2,3,4] acu (fun x=>M.ku x.2.2.1.1 x.2.2.2.1.1 x.2.2.2.2.2.2.2.1 x.2.2.2.2.2.2.2.2.1 ah x.1.2.2.2.2.1 x.2.1 x.2.2.2.2.1) avc
def ave(y:(List M.aj)×Int×Bool×(List UInt8)×(List UInt8)×(List M.aG)×(List M.aG)){R:Type}(k:KT R):R:=match y with|a0=>kk k (Ex.exit 0) acv (((),((),())),((a0.1,(a0.2.1,(a0.2.2.1,()))),((a0.2.2.2.1,((),())),((a0.2.2.2.2.1,((),())),((),((),(a0.2.2.2.2.2.1,(a0.2.2.2.2.2.2,()))))))))
def avf:List (cn K ((List M.aj)×Int×Bool×(List UInt8)×(List UInt8)×(List M.aG)×(List M.aG))):=[⟨(Ex.exit 0),acv,fun x=>(x.2.1.1,x.2.1.2.1,x.2.1.2.2.1,x.2.2.1.1,x.2.2.2.1.1,x.2.2.2.2.2.2.1,x.2.2.2.2.2.2.2.1)⟩]
def afq:bE K:=bH D false 71 5 [0,2,3] [2,3] acw (fun x=>M.qP ah x.2.1 x.2.2.1.1 x.2.2.2.1.1 x.2.2.2.2.2.2.1 x.2.2.2.2.2.2.2.1) ave
def afr(m:M.aC->Option (M.aM×M.aC)):aE K:={f:=111,sh:=m9,R:=M.aM×M.aC,run:=fun x=>m x.2.1,dflt:=default,out:=fun r=>(Sh.enc D (.el U.cX) r.1,aY.encs D [.el U.dm] (r.2,()))}
def yP:Cx K:=bg [(107,.bh),(106,.bh),(109,.bh),(86,.jG),(155,.bh)] [pT M.fU,nc M.dE,mi M.dI,Og M.jC,O3 M.lL] [(7,afp),(3,afq)]
theorem O4:aN yP:=aV aL _ (ae rB (ae oo (ae nb (ae XQ (ae afg ay)))))
theorem avg:bF yP (bp (bp (bD Tryz.f111) 0) 0) afp:=lk (cx:=yP) (sh:=acu) (run:=fun n x=>M.ku x.2.2.1.1 x.2.2.2.1.1 x.2.2.2.2.2.2.2.1 x.2.2.2.2.2.2.2.2.1 n x.1.2.2.2.2.1 x.2.1 x.2.2.2.2.1) (bG:=avd) O4 (fun m x=>by kernel_rfl) (ae ⟨bJ,fun _ _ _=>rfl⟩ ay)
theorem avh:bF yP (bp (bD Tryz.f111) 0) afq:=lk (cx:=yP) (sh:=acw) (run:=fun n x=>M.qP n x.2.1 x.2.2.1.1 x.2.2.2.1.1 x.2.2.2.2.2.2.1 x.2.2.2.2.2.2.2.1) (bG:=avf) O4 (fun m x=>by kernel_rfl) (ae ⟨bJ,fun _ _ _=>rfl⟩ ay) (hl:=(afH 1 (by kernel_rfl) (ju (.mk (by kernel_rfl) avg))))
theorem avi:au (afr (M.vg)):=aS (cx:=yP) true O4 Tryz.func111 (hl1 avh) ⟨⟨[.el U.cX],[.el U.dm]⟩,fun x=>(x.1.1,x.2.1)⟩ (fun x=>by kernel_rfl)
def afs:bE K:=bH D false 63 7 [0,2,3] [2,3] acx (fun x=>M.jN x.2.2.1.1 x.2.2.1.2.1 x.2.2.2.1.1 x.2.2.2.1.2.1 x.2.2.2.2.2.2.2.2.1 x.2.2.2.2.2.2.2.2.2.1 ah x.2.1 x.2.2.2.2.2.2.2.2.2.2.1 x.2.2.2.2.2.2.2.2.2.2.2.1) aeS
def VC(m:M.aC->Option (M.ai×M.aC)):aE K:={f:=82,sh:=m9,R:=M.ai×M.aC,run:=fun x=>m x.2.1,dflt:=default,out:=fun r=>(Sh.enc D (.el U.aJ) r.1,aY.encs D [.el U.dm] (r.2,()))}
def Jh:Cx K:=bg [(106,.bh),(107,.bh),(108,.bh),(83,.bh),(109,.bh),(110,.bh),(111,.bh)] [nc M.dE,pT M.fU,O2 M.sB,vG M.kS,mi M.dI,afn M.xC,afr M.vg] [(6,afs)]
theorem aft:aN Jh:=aV aL _ (ae oo (ae rB (ae ae9 (ae yq (ae nb (ae avb (ae avi ay)))))))
theorem avj:bF Jh (bp (bD Tryz.f82) 0) afs:=lk (cx:=Jh) (sh:=acx) (run:=fun n x=>M.jN x.2.2.1.1 x.2.2.1.2.1 x.2.2.2.1.1 x.2.2.2.1.2.1 x.2.2.2.2.2.2.2.2.1 x.2.2.2.2.2.2.2.2.2.1 n x.2.1 x.2.2.2.2.2.2.2.2.2.2.1 x.2.2.2.2.2.2.2.2.2.2.2.1) (bG:=aeT) aft (fun m x=>by kernel_rfl) (ae ⟨bJ,fun _ _ _=>rfl⟩ ay)
theorem amR:au (VC (M.xE)):=aS (cx:=Jh) true aft Tryz.func82 (hl1 avj) ⟨⟨[.el U.aJ],[.el U.dm]⟩,fun x=>(x.1.1,x.2.1)⟩ (fun x=>by kernel_rfl)
def afu(m:M.aO->Option ((List UInt8))):aE K:=cS 156 HM (fun x=>m x.1.1)
theorem avk:au (afu (M.AB)):=aS (cx:=fy) true fG Tryz.func156 hq ⟨eZ,fun x=>x.1.1⟩ (fun x=>by kernel_rfl)
def avl(y:Int×M.aD×(List (List UInt8))×(List (List UInt8))){R:Type}(k:KT R):R:=match y with|a0=>kk k (Ex.exit 3) acy (((),((),((),(a0.1,())))),(a0.2.1,((),((),((),(a0.2.2.1,(a0.2.2.2,())))))))
def avm:List (cn K (Int×M.aD×(List (List UInt8))×(List (List UInt8)))):=[⟨(Ex.exit 3),acy,fun x=>(x.1.2.2.2.1,x.2.1,x.2.2.2.2.2.1,x.2.2.2.2.2.2.1)⟩]
def afv:bE K:=bH D false 60 4 [1,4,5,6,7,8] [1,4,5,6] acz (fun x=>M.xH x.1.2.2.2.1 x.2.1 x.2.2.2.2.2.2.1 ah x.1.2.2.2.2.2.1 x.2.2.2.2.1 x.2.2.2.2.2.1) avl
def avn(y:(List (List UInt8))×(List (List UInt8))){R:Type}(k:KT R):R:=match y with|a0=>kk k (Ex.exit 0) Gt (((),((),())),((),((),((),(a0.1,(a0.2,()))))))
def avo:List (cn K ((List (List UInt8))×(List (List UInt8)))):=[⟨(Ex.exit 0),Gt,fun x=>(x.2.2.2.2.1,x.2.2.2.2.2.1)⟩]
def afw:bE K:=bH D false 60 3 [1,4,5,6] [4,5] acA (fun x=>M.qR ah x.1.2.2.2.1 x.2.1 x.2.2.2.2.1 x.2.2.2.2.2.1) avn
def Vx(m:M.aD->Option ((List (List UInt8))×(List (List UInt8)))):aE K:={f:=112,sh:=⟨[.el U.cz],[]⟩,R:=(List (List UInt8))×(List (List UInt8)),run:=fun x=>m x.1.1,dflt:=default,out:=fun r=>(Sh.enc D (.bz [.an U.str,.an U.str]) (r.1,(r.2,())),aY.encs D [] ())}
def yQ:Cx K:=bg [(156,.plain)] [afu M.AB] [(15,afv),(4,afw)]
theorem O5:aN yQ:=aV aL _ (ae avk ay)
theorem avp:bF yQ (bp (bp (bD Tryz.f112) 0) 0) afv:=lk (cx:=yQ) (sh:=acz) (run:=fun n x=>M.xH x.1.2.2.2.1 x.2.1 x.2.2.2.2.2.2.1 n x.1.2.2.2.2.2.1 x.2.2.2.2.1 x.2.2.2.2.2.1) (bG:=avm) O5 (fun m x=>by kernel_rfl) (ae ⟨bJ,fun _ _ _=>rfl⟩ ay)
theorem avq:bF yQ (bp (bD Tryz.f112) 0) afw:=lk (cx:=yQ) (sh:=acA) (run:=fun n x=>M.qR n x.1.2.2.2.1 x.2.1 x.2.2.2.2.1 x.2.2.2.2.2.1) (bG:=avo) O5 (fun m x=>by kernel_rfl) (ae ⟨bJ,fun _ _ _=>rfl⟩ ay) (hl:=(afH 1 (by kernel_rfl) (ju (.mk (by kernel_rfl) avp))))
theorem amL:au (Vx (M.AE)):=aS (cx:=yQ) true O5 Tryz.func112 (hl1 avq) ⟨⟨[.bz [.an U.str,.an U.str]],[]⟩,fun x=>(x.1.1.1,x.1.1.2.1)⟩ (fun x=>by kernel_rfl)
def avr(y:Bool⊕((List (List UInt8))×Int)){R:Type}(k:KT R):R:=match y with|.inl a0=>kk k Ex.ret ⟨[.any,.any,.bool],[]⟩ (((),((),(a0,()))),())|.inr a1=>kk k (Ex.exit 2) ⟨[.an U.str,iq0,.any],[]⟩ ((a1.1,(a1.2,((),()))),())
def amG:List (cn K ((Bool)⊕((List (List UInt8))×Int))):=[⟨Ex.ret,⟨[.any,.any,.bool],[]⟩,fun x=>.inl x.1.2.2.1⟩,⟨(Ex.exit 2),⟨[.an U.str,iq0,.any],[]⟩,fun x=>.inr ((x.1.1,x.1.2.1))⟩]
def Vs:bE K:=bH D false 25 0 [0,3,4] [0,3,2] Gq (fun x=>M.vi x.1.1 x.1.2.1 ah x.1.2.2.1) avr
