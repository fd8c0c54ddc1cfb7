/-
  Part of the proof of the claim.
-/
import Derived.Test.YtghkckfhaljjjaaGreatDoorXYCM
import Derived.Test.YtghkckfhaljjjaaGreatDoorXXHdA
import Derived.Test.YtghkckfhaljjjaaGreatDoorXXHdI
import Derived.Test.YtghkckfhaljjjaaGreatDoorXXHdJ2
import Derived.Test.YtghkckfhaljjjaaGreatDoorXXHdV
import Derived.Test.YtghkckfhaljjjaaGreatDoorXWor
import Derived.Test.YtghkckfhaljjjaaGreatDoorProg
set_option linter.unusedVariables false
set_option maxRecDepth 100000
open Go Go.Proofs
open Go.V
noncomputable section
abbrev iq0:Go.V.Sh Go.V.K:=.int .i64
abbrev iq2:=Go.V.aK Go.V.K
abbrev zs0:iq2:=⟨[.bool],[]⟩
abbrev zs1:iq2:=⟨[.any],[]⟩
abbrev zs2:iq2:=⟨[iq0],[]⟩
abbrev eY:iq2:=⟨[.str],[]⟩
abbrev ZL:iq2:=⟨[.any,iq0],[]⟩
abbrev ZM:iq2:=⟨[iq0,.any],[]⟩
abbrev mZ:iq2:=⟨[.ptr 0 0],[.el U.dm]⟩
abbrev qY:iq2:=⟨[.str,iq0],[]⟩
abbrev qZ:iq2:=⟨[.str,iq0,iq0],[]⟩
abbrev qV:iq2:=⟨[.el U.ba],[]⟩
abbrev tB:iq2:=⟨[.ptr 0 0],[.el U.parser]⟩
abbrev Hg:iq2:=⟨[],[.box [.an U.Token,iq0,.bool],.box [.ptr 0 0],.box [iq0,.str,iq0,.str,.own 7,.own 8,.own 9,.bool,.str,.str,.str,.own 10],.dead,.dead,.dead,.dead,.arr U.str,.arr U.Term,.arr U.cY,.arr U.dc]⟩
abbrev tj:iq2:=⟨[.ptr 0 0,.str,iq0],[.el U.ba]⟩
abbrev yo:iq2:=⟨[.str,.str],[]⟩
abbrev x9:iq2:=⟨[.int .u8],[]⟩
abbrev yp:iq2:=⟨[.an U.str],[]⟩
abbrev yq:iq2:=⟨[.ptr 0 0],[.box [.str,iq0,iq0,.own 2],.dead,.arr U.Token]⟩
abbrev yd:iq2:=⟨[.str],[.el U.parser]⟩
abbrev ye:iq2:=⟨[.str],[.dead]⟩
abbrev FH:iq2:=⟨[.any,.any,.bool],[.dead,.dead]⟩
abbrev FI:iq2:=⟨[.bool],[.dead,.dead]⟩
abbrev CB:iq2:=⟨[.any],[.dead,.dead]⟩
abbrev Fv:iq2:=⟨[.an U.ba,.str,.str],[]⟩
abbrev Hh:iq2:=⟨[.an U.str,iq0,iq0],[]⟩
abbrev Gg:iq2:=⟨[.bC [iq0,iq0]],[]⟩
abbrev Hj:iq2:=⟨[],[.box [.str,iq0,iq0,.own 2],.dead,.arr U.Token]⟩
abbrev Hk:iq2:=⟨[.any],[.dead]⟩
abbrev Hl:iq2:=⟨[.ptr 0 0,.str],[.el U.dm]⟩
abbrev Hm:iq2:=⟨[.ptr 0 0,.str],[.el U.parser]⟩
abbrev Hq:iq2:=⟨[],[.box [.an U.Token,iq0,.bool],.box [iq0,.str,.own 6,.own 7],.box [.ptr 0 0],.box [iq0],.dead,.dead,.arr U.str,.arr U.Term]⟩
abbrev Hr:iq2:=⟨[],[.box [.an U.Token,iq0,.bool],.box [.ptr 0 0],.box [iq0,.str,.own 7,.own 8],.box [.fn 235 [.ptr 2 0,.ptr 1 0,.ptr 6 0]],.dead,.dead,.box [iq0],.arr U.str,.arr U.Term]⟩
abbrev ZN:iq2:=⟨[.ptr 0 0,.ptr 1 0,.ptr 2 0],[.el U.parser,.box [.str,.own 5],.box [.str,.own 6],.dead,.dead,.arr U.Item,.arr U.Item]⟩
abbrev Fq:iq2:=⟨[.ptr 0 0,.ptr 1 0,.ptr 2 0],[.el U.parser,.box [.str,.own 5],.box [.str,.own 6],.dead,.dead,.arr U.dr,.arr U.dr]⟩
abbrev Ht:iq2:=⟨[.ptr 1 0,.ptr 2 0],[.box [.an U.Token,iq0,.bool],.box [.str,.str,.own 7,.own 8],.box [.str,.str,.own 9,.own 10],.dead,.dead,.dead,.dead,.arr U.cD,.arr U.cX,.arr U.cD,.arr U.cX]⟩
abbrev ZO:iq2:=⟨[.el U.dc],[]⟩
abbrev ZP:iq2:=⟨[.ptr 0 0,.own 6,.own 7,.ptr 3 0,.own 8,.own 9,.an U.cD,iq0,iq0,.an U.Item,iq0,iq0],[.el U.ba,.dead,.dead,.el U.cD,.dead,.dead,.arr U.str,.arr U.str,.arr U.str,.arr U.str]⟩
abbrev Ft:iq2:=⟨[.any,.any,.any,.bool],[.dead,.dead,.dead,.dead,.dead]⟩
abbrev Fz:iq2:=⟨[.ptr 0 0,.own 3,.own 4,.any],[.el U.ba,.dead,.dead,.arr U.str,.arr U.str]⟩
abbrev FG:iq2:=⟨[.own 3,.own 4],[.dead,.dead,.dead,.arr U.str,.arr U.str]⟩
abbrev FT:iq2:=⟨[.ptr 0 0,.own 3,.own 4,iq0],[.el U.ba,.dead,.dead,.arr U.str,.arr U.str]⟩
abbrev FU:iq2:=⟨[.ptr 0 0,.ptr 1 0,iq0],[.el U.Term,.el U.Term]⟩
abbrev FV:iq2:=⟨[.el U.Path],[]⟩
abbrev FW:iq2:=⟨[.el U.Item],[]⟩
abbrev F6:iq2:=⟨[.ptr 0 0,.ptr 1 0,.an U.cD,iq0,iq0],[.el U.ba,.box [.np 1,.own 3],.dead,.arr U.u8]⟩
abbrev F8:iq2:=⟨[.ptr 0 0,.own 3,.an U.cX,iq0,iq0],[.box [.np 0,.own 4],.dead,.dead,.arr U.str,.arr U.u8]⟩
abbrev F9:iq2:=⟨[.any,.bool],[.dead]⟩
abbrev Ge:iq2:=⟨[.any,.any,.bool],[.dead]⟩
abbrev Gf:iq2:=⟨[.ptr 0 0,iq0,.any],[.el U.ba]⟩
abbrev Gh:iq2:=⟨[.ptr 0 0,iq0,iq0],[.el U.ba]⟩
abbrev Gi:iq2:=⟨[.ptr 0 0,iq0],[.el U.ba]⟩
abbrev Gj:iq2:=⟨[.ptr 0 0,.str,iq0],[.el U.Item]⟩
abbrev Gk:iq2:=⟨[.ptr 0 0,.str,iq0,iq0],[.el U.ba]⟩
abbrev Gl:iq2:=⟨[.ptr 0 0,.ptr 1 0,iq0],[.el U.Item,.el U.Item]⟩
abbrev Gm:iq2:=⟨[.any,.any,.any,.bool],[.dead,.dead]⟩
abbrev Gn:iq2:=⟨[.ptr 0 0,.ptr 1 0,iq0,.any],[.el U.ba,.el U.ba]⟩
abbrev G0:iq2:=⟨[.ptr 0 0,.ptr 1 0,iq0,iq0],[.el U.ba,.el U.ba]⟩
abbrev MK:iq2:=⟨[.ptr 0 0,.ptr 1 0,iq0],[.el U.ba,.el U.ba]⟩
abbrev Nb:iq2:=⟨[.an U.ba,iq0,iq0],[]⟩
abbrev Nc:iq2:=⟨[.an U.ba,.str,iq0,.bool],[]⟩
abbrev Nh:iq2:=⟨[.bC [iq0,iq0,iq0]],[]⟩
abbrev Ni:iq2:=⟨[.an U.str,iq0],[]⟩
abbrev MN:iq2:=⟨[.bC []],[.el U.dm]⟩
abbrev MO:iq2:=⟨[.str],[.el U.dm]⟩
abbrev MX:iq2:=⟨[.bC []],[.el U.parser,.box [iq0,.str,.own 6,.own 7],.box [.ptr 0 0],.box [iq0],.dead,.dead,.arr U.str,.arr U.Term]⟩
abbrev MY:iq2:=⟨[.el U.Item],[.el U.dm]⟩
abbrev M9:iq2:=⟨[.el U.Term,iq0],[]⟩
abbrev ZQ:iq2:=⟨[.el U.Term,.el U.Term],[]⟩
abbrev ZR:iq2:=⟨[.el U.Item,.el U.Item],[]⟩
abbrev ZS:iq2:=⟨[.el U.ba,.el U.ba],[]⟩
abbrev ZT:iq2:=⟨[.an U.ba,iq0],[]⟩
abbrev ZU:iq2:=⟨[.an U.ba],[]⟩
abbrev ZV:iq2:=⟨[.an U.str,.an U.str,iq0],[]⟩
abbrev ZW:iq2:=⟨[.any,.any,.any,.any,iq0],[]⟩
abbrev ZX:iq2:=⟨[.str,iq0,iq0,iq0,.any],[]⟩
abbrev ZY:iq2:=⟨[.str,iq0,iq0,iq0,iq0],[]⟩
abbrev ZZ:iq2:=⟨[iq0,.an U.str,iq0,iq0],[]⟩
abbrev Z0:iq2:=⟨[.an U.str,.str,iq0,iq0],[]⟩
abbrev Z1:iq2:=⟨[.an U.str,.own 1,iq0],[.dead,.arr U.str]⟩
abbrev Z2:iq2:=⟨[.any,.any,iq0,iq0],[]⟩
abbrev Z3:iq2:=⟨[iq0,iq0,.any,.any],[]⟩
abbrev Z4:iq2:=⟨[.any,.any,.own 2,iq0,iq0],[.dead,.dead,.arr U.Token]⟩
abbrev Z5:iq2:=⟨[.own 1,iq0,.any,.any,.any],[.dead,.arr U.Token]⟩
abbrev Z6:iq2:=⟨[.str,.own 1,iq0,iq0],[.dead,.arr U.Token]⟩
abbrev Z7:iq2:=⟨[.bC [.an U.Token,iq0,iq0]],[]⟩
abbrev Z8:iq2:=⟨[.any,.dn,iq0,iq0],[.dead,.dead,.dead]⟩
abbrev Z9:iq2:=⟨[.ptr 0 0,.any,.any,.any],[.box [.str,iq0,iq0,.own 2],.dead,.arr U.Token]⟩
abbrev aab:iq2:=⟨[.str,.ptr 0 0],[.box [.str,iq0,iq0,.own 2],.dead,.arr U.Token]⟩
abbrev aac:iq2:=⟨[.str,.own 1,iq0],[.dead,.arr U.str]⟩
abbrev aad:iq2:=⟨[.ptr 0 0,iq0,.fn 235 [.ptr 1 0,.ptr 2 0,.ptr 3 0],iq0],[.el U.parser,.box [iq0,.str,.own 6,.own 7],.box [.ptr 0 0],.box [iq0],.dead,.dead,.arr U.str,.arr U.Term]⟩
abbrev aae:iq2:=⟨[],[.box [iq0,.str,.own 3,.own 4],.dead,.dead,.arr U.str,.arr U.Term]⟩
abbrev aaf:iq2:=⟨[.ptr 0 0],[.box [iq0,.str,.own 3,.own 4],.dead,.dead,.arr U.str,.arr U.Term]⟩
abbrev aag:iq2:=⟨[.ptr 0 0,.ptr 1 0,.fn 235 [.ptr 1 0,.ptr 2 0,.ptr 3 0]],[.el U.parser,.box [iq0,.str,.own 4,.own 5],.box [.ptr 0 0],.box [iq0],.arr U.str,.arr U.Term]⟩
abbrev aah:iq2:=⟨[.ptr 0 0,iq0,.fn 237 [.ptr 1 0,.ptr 2 0,.ptr 3 0],iq0],[.el U.parser,.box [.ptr 0 0],.box [iq0,.str,.own 7,.own 8],.box [.fn 235 [.ptr 2 0,.ptr 1 0,.ptr 6 0]],.dead,.dead,.box [iq0],.arr U.str,.arr U.Term]⟩
abbrev aai:iq2:=⟨[.ptr 0 0,.ptr 1 0],[.box [.ptr 2 0],.box [iq0,.str,iq0,.str,.own 3,.own 4,.own 5,.bool,.str,.str,.str,.own 6],.box [.an U.Token,iq0,.bool],.arr U.str,.arr U.Term,.arr U.cY,.arr U.dc]⟩
abbrev aaj:iq2:=⟨[.bC []],[.box [.ptr 2 0],.box [iq0,.str,iq0,.str,.own 7,.own 8,.own 9,.bool,.str,.str,.str,.own 10],.box [.an U.Token,iq0,.bool],.dead,.dead,.dead,.dead,.arr U.str,.arr U.Term,.arr U.cY,.arr U.dc]⟩
abbrev aak:iq2:=⟨[.ptr 0 0,iq0,.fn 231 [.ptr 1 0,.ptr 2 0],iq0],[.el U.parser,.box [.ptr 0 0],.box [iq0,.str,iq0,.str,.own 7,.own 8,.own 9,.bool,.str,.str,.str,.own 10],.dead,.dead,.dead,.dead,.arr U.str,.arr U.Term,.arr U.cY,.arr U.dc]⟩
abbrev aal:iq2:=⟨[.bC []],[.el U.parser,.box [.ptr 0 0],.box [iq0,.str,iq0,.str,.own 7,.own 8,.own 9,.bool,.str,.str,.str,.own 10],.dead,.dead,.dead,.dead,.arr U.str,.arr U.Term,.arr U.cY,.arr U.dc]⟩
abbrev aam:iq2:=⟨[.ptr 0 0,iq0,.fn 203 [.ptr 1 0,.ptr 2 0],iq0],[.el U.parser,.box [.ptr 0 0],.box [iq0,.str,iq0,.str,.own 7,.own 8,.own 9,.bool,.str,.str,.str,.own 10],.dead,.dead,.dead,.dead,.arr U.str,.arr U.Term,.arr U.cY,.arr U.dc]⟩
abbrev aan:iq2:=⟨[],[.box [.an U.Token,iq0,.bool],.box [iq0,.str,.own 4,.own 5],.dead,.dead,.arr U.str,.arr U.Term]⟩
abbrev aao:iq2:=⟨[.ptr 0 0,.ptr 1 0,iq0],[.el U.dm,.box [iq0,.str,.own 4,.own 5],.dead,.dead,.arr U.str,.arr U.Term]⟩
abbrev aap:iq2:=⟨[.ptr 1 0,.ptr 2 0],[.box [.an U.Token,iq0,.bool],.box [iq0,.str,.own 7,.own 8],.box [iq0,.str,.own 9,.own 10],.dead,.dead,.dead,.dead,.arr U.str,.arr U.Term,.arr U.str,.arr U.Term]⟩
abbrev aaq:iq2:=⟨[.ptr 0 0,iq0,.ptr 1 0,.ptr 2 0],[.el U.dm,.box [iq0,.str,.own 7,.own 8],.box [iq0,.str,.own 9,.own 10],.dead,.dead,.dead,.dead,.arr U.str,.arr U.Term,.arr U.str,.arr U.Term]⟩
abbrev aar:iq2:=⟨[.ptr 0 0,.ptr 1 0,.ptr 2 0],[.el U.parser,.box [.str,.str,.own 7,.own 8],.box [.str,.str,.own 9,.own 10],.dead,.dead,.dead,.dead,.arr U.cD,.arr U.cX,.arr U.cD,.arr U.cX]⟩
abbrev Ux:iq2:=⟨[.ptr 0 0,.own 6,.own 7,.ptr 3 0,.own 8,.own 9,.an U.cD,iq0,iq0,.an U.Item,iq0,iq0,.an U.dc,iq0,iq0],[.el U.ba,.dead,.dead,.el U.cD,.dead,.dead,.arr U.str,.arr U.str,.arr U.str,.arr U.str]⟩
abbrev aas:iq2:=⟨[.ptr 0 0,.own 6,.own 7,.ptr 3 0,.own 8,.own 9,.an U.cD,iq0,iq0],[.el U.ba,.dead,.dead,.el U.cD,.dead,.dead,.arr U.str,.arr U.str,.arr U.str,.arr U.str]⟩
abbrev aat:iq2:=⟨[.ptr 0 0,.own 3,.own 4,.an U.cD,iq0,iq0],[.el U.ba,.dead,.dead,.arr U.str,.arr U.str]⟩
abbrev aau:iq2:=⟨[.own 2,.own 3],[.dead,.dead,.arr U.str,.arr U.str]⟩
abbrev aav:iq2:=⟨[.own 2,.own 3,.an U.cX,iq0,iq0],[.dead,.dead,.arr U.str,.arr U.str]⟩
abbrev aaw:iq2:=⟨[.bC [.el U.ba,iq0,iq0]],[]⟩
abbrev aax:iq2:=⟨[.own 2],[.box [.an U.Token,iq0,.bool],.dead,.arr U.cY]⟩
abbrev aay:iq2:=⟨[.ptr 0 0,.own 2],[.el U.dm,.dead,.arr U.cY]⟩
abbrev aaz:iq2:=⟨[.ptr 1 0,.ptr 2 0],[.box [.an U.Token,iq0,.bool],.box [iq0,.str,iq0,.str,.own 11,.own 12,.own 13,.bool,.str,.str,.str,.own 14],.box [iq0,.str,iq0,.str,.own 15,.own 16,.own 17,.bool,.str,.str,.str,.own 18],.dead,.dead,.dead,.dead,.dead,.dead,.dead,.dead,.arr U.str,.arr U.Term,.arr U.cY,.arr U.dc,.arr U.str,.arr U.Term,.arr U.cY,.arr U.dc]⟩
abbrev aaA:iq2:=⟨[.ptr 0 0,.ptr 1 0,.ptr 2 0],[.el U.dm,.box [iq0,.str,iq0,.str,.own 11,.own 12,.own 13,.bool,.str,.str,.str,.own 14],.box [iq0,.str,iq0,.str,.own 15,.own 16,.own 17,.bool,.str,.str,.str,.own 18],.dead,.dead,.dead,.dead,.dead,.dead,.dead,.dead,.arr U.str,.arr U.Term,.arr U.cY,.arr U.dc,.arr U.str,.arr U.Term,.arr U.cY,.arr U.dc]⟩
abbrev aaB:iq2:=⟨[.ptr 1 0,.ptr 2 0],[.box [.an U.Token,iq0,.bool],.box [.str,.own 5],.box [.str,.own 6],.dead,.dead,.arr U.Item,.arr U.Item]⟩
abbrev Ua:iq2:=⟨[.ptr 0 0,.ptr 1 0,.ptr 2 0],[.el U.dm,.box [.str,.own 5],.box [.str,.own 6],.dead,.dead,.arr U.Item,.arr U.Item]⟩
abbrev Ue:iq2:=⟨[.ptr 0 0,.ptr 1 0,.ptr 2 0,.ptr 3 0],[.el U.dm,.box [.str,.own 6],.box [.str,.own 7],.el U.dr,.dead,.dead,.arr U.dr,.arr U.dr]⟩
abbrev Ug:iq2:=⟨[.ptr 0 0,.ptr 1 0,.ptr 2 0,.ptr 3 0,iq0],[.el U.dm,.box [.str,.own 6],.box [.str,.own 7],.el U.dr,.dead,.dead,.arr U.dr,.arr U.dr]⟩
abbrev Ui:iq2:=⟨[.ptr 1 0,.ptr 2 0],[.box [.an U.Token,iq0,.bool],.box [.str,.own 5],.box [.str,.own 6],.dead,.dead,.arr U.dr,.arr U.dr]⟩
abbrev Uz:iq2:=⟨[.ptr 0 0,.ptr 1 0,.ptr 2 0],[.el U.dm,.box [.str,.own 5],.box [.str,.own 6],.dead,.dead,.arr U.dr,.arr U.dr]⟩
abbrev UI:iq2:=⟨[.ptr 0 0,.ptr 1 0,.ptr 2 0],[.el U.dm,.box [.str,.str,.own 7,.own 8],.box [.str,.str,.own 9,.own 10],.dead,.dead,.dead,.dead,.arr U.cD,.arr U.cX,.arr U.cD,.arr U.cX]⟩
abbrev UP:iq2:=⟨[.ptr 0 0,.own 4,.own 5,iq0],[.el U.cD,.dead,.dead,.dead,.arr U.str,.arr U.str]⟩
abbrev UX:iq2:=⟨[.ptr 0 0,.own 4,.own 5,iq0,.ptr 3 0,iq0],[.el U.cD,.dead,.dead,.el U.Item,.arr U.str,.arr U.str]⟩
abbrev U3:iq2:=⟨[.ptr 0 0,.own 3,.own 4,iq0],[.el U.cD,.dead,.dead,.arr U.str,.arr U.str]⟩
abbrev U9:iq2:=⟨[iq0,.ptr 0 0,iq0,iq0],[.el U.Term]⟩
abbrev Vb:iq2:=⟨[.ptr 0 0,.str,iq0],[.el U.Term]⟩
abbrev Vf:iq2:=⟨[.ptr 0 0,.ptr 1 0,.any],[.el U.Term,.el U.Term]⟩
abbrev Vm:iq2:=⟨[.an U.str,.an U.str,iq0,iq0],[]⟩
abbrev Vo:iq2:=⟨[.an U.Term,.fn 169 [.rp U.i64 0],.an U.Term,iq0,iq0],[]⟩
abbrev Vq:iq2:=⟨[.ptr 0 0,.str,.own 2],[.el U.Term,.dead,.arr U.str]⟩
abbrev Vs:iq2:=⟨[iq0,.ptr 0 0,.str,.own 2,.an U.Term,iq0,iq0],[.el U.Term,.dead,.arr U.str]⟩
abbrev Vv:iq2:=⟨[.an U.str,.ptr 0 0,.own 2,.an U.str,iq0,iq0],[.el U.Term,.dead,.arr U.str]⟩
abbrev Vw:iq2:=⟨[.ptr 0 0,.own 2],[.el U.Item,.dead,.arr U.str]⟩
abbrev Vz:iq2:=⟨[.ptr 0 0,.own 2,.an U.dc,iq0,iq0],[.el U.Item,.dead,.arr U.str]⟩
abbrev VA:iq2:=⟨[.ptr 0 0,.own 2,.str],[.el U.Item,.dead,.arr U.str]⟩
abbrev VE:iq2:=⟨[.ptr 0 0,.own 2,.str,.an U.cY,iq0,iq0],[.el U.Item,.dead,.arr U.str]⟩
abbrev VI:iq2:=⟨[.ptr 0 0,.ptr 1 0,.an U.cD,iq0,iq0,.an U.Item,iq0,iq0],[.el U.ba,.box [.np 1,.own 3],.dead,.arr U.u8]⟩
abbrev VL:iq2:=⟨[.ptr 0 0,.ptr 1 0],[.el U.ba,.box [.np 1,.own 3],.dead,.arr U.u8]⟩
abbrev VR:iq2:=⟨[.ptr 0 0,.own 3,.an U.cX,iq0,iq0,.an U.dr,iq0,iq0],[.box [.np 0,.own 4],.dead,.dead,.arr U.str,.arr U.u8]⟩
abbrev VX:iq2:=⟨[.ptr 0 0],[.box [.np 0,.own 3],.dead,.dead,.arr U.u8]⟩
abbrev V1:iq2:=⟨[.an U.dc,.an U.dc,iq0,iq0],[]⟩
abbrev V3:iq2:=⟨[.el U.cY,.el U.cY],[]⟩
abbrev V6:iq2:=⟨[.an U.cY,.fn 121 [],.an U.cY,iq0,iq0],[]⟩
abbrev V9:iq2:=⟨[.an U.Item,.fn 79 [],.an U.Item,iq0,iq0],[]⟩
abbrev WL:iq2:=⟨[.an U.cD,.fn 77 [],.an U.cD,iq0,iq0],[]⟩
abbrev WR:iq2:=⟨[.an U.dr,.an U.dr,iq0,iq0],[]⟩
abbrev WZ:iq2:=⟨[.an U.dr,.an U.dr],[]⟩
abbrev Xc:iq2:=⟨[.el U.cX,.el U.cX],[]⟩
abbrev Xi:iq2:=⟨[.an U.cX,.fn 81 [],.an U.cX,iq0,iq0],[]⟩
abbrev Xo:iq2:=⟨[.ptr 0 0,.ptr 1 0,.any],[.el U.Item,.el U.Item]⟩
abbrev Xu:iq2:=⟨[.ptr 0 0,.ptr 1 0,.any],[.el U.ba,.el U.ba]⟩
abbrev XA:iq2:=⟨[.an U.Term,iq0,iq0],[]⟩
abbrev XG:iq2:=⟨[.an U.cY,iq0,iq0],[]⟩
abbrev XM:iq2:=⟨[.an U.dc,iq0,iq0],[]⟩
abbrev XW:iq2:=⟨[.an U.Item,iq0,iq0],[]⟩
abbrev X3:iq2:=⟨[.an U.cD,iq0,iq0],[]⟩
abbrev X9:iq2:=⟨[.an U.dr,iq0,iq0],[]⟩
abbrev Yf:iq2:=⟨[.an U.cX,iq0,iq0],[]⟩
abbrev Yl:iq2:=⟨[.an U.Term,.own 1,iq0],[.dead,.tree U.Term]⟩
abbrev Yr:iq2:=⟨[.an U.cY,.own 1,iq0],[.dead,.tree U.cY]⟩
abbrev Yx:iq2:=⟨[.an U.dc,.own 1,iq0],[.dead,.arr U.dc]⟩
abbrev YH:iq2:=⟨[.an U.Item,.own 1,iq0],[.dead,.tree U.Item]⟩
abbrev YN:iq2:=⟨[.an U.cD,.own 1,iq0],[.dead,.tree U.cD]⟩
abbrev YT:iq2:=⟨[.an U.dr,.own 1,iq0],[.dead,.arr U.dr]⟩
abbrev YZ:iq2:=⟨[.an U.cX,.own 1,iq0],[.dead,.tree U.cX]⟩
abbrev Y5:iq2:=⟨[.an U.Term,.an U.Term,iq0],[]⟩
abbrev Zb:iq2:=⟨[.an U.cY,.an U.cY,iq0],[]⟩
abbrev Zm:iq2:=⟨[.an U.dc,.an U.dc,iq0],[]⟩
abbrev Zo:iq2:=⟨[.an U.Item,.an U.Item,iq0],[]⟩
abbrev Zt:iq2:=⟨[.an U.cD,.an U.cD,iq0],[]⟩
abbrev ZA:iq2:=⟨[.an U.dr,.an U.dr,iq0],[]⟩
abbrev ZG:iq2:=⟨[.an U.cX,.an U.cX,iq0],[]⟩
abbrev aut:iq2:=⟨[.an U.ba,.fn 17 [.rp U.ba 0],iq0,iq0],[]⟩
abbrev auu:iq2:=⟨[.an U.ba,.fn 17 [.rp U.ba 0]],[]⟩
abbrev auv:iq2:=⟨[.an U.ba,.an U.ba,iq0,iq0],[]⟩
abbrev auC:iq2:=⟨[.an U.ba,.str,.str,iq0,.bool,iq0],[]⟩
abbrev auR:iq2:=⟨[.an U.ba,.str,.str,iq0,.bool,.an U.ba,iq0,iq0],[]⟩
abbrev auW:iq2:=⟨[.an U.ba,.own 1,iq0],[.dead,.tree U.ba]⟩
abbrev auX:iq2:=⟨[.an U.ba,.an U.ba,iq0],[]⟩
def Nj:Go.TypeId->Option U:=dR [(2,U.i64),(3,U.i64),(4,U.bool),(5,U.u8),(6,U.u8),(9,U.str),(10,U.str),(11,U.str),(12,U.u64),(21,U.i32),(22,U.s7),(25,U.s7),(33,U.sZ),(34,U.tc),(36,U.ba),(37,U.sZ),(38,U.tc),(40,U.ba),(60,U.s6),(62,U.cD),(64,U.td),(66,U.cX),(70,U.s6),(72,U.cD),(74,U.td),(76,U.cX),(87,U.vn),(88,U.s8),(90,U.Term),(91,U.s9),(93,U.Path),(94,U.ta),(96,U.Item),(98,U.dr),(99,U.vm),(104,U.dm),(107,U.Token),(116,U.vo),(135,U.s8),(137,U.Term),(138,U.s9),(139,U.Path),(140,U.ta),(142,U.Item),(145,U.dr),(148,U.cY),(161,U.dc),(169,U.parser),(201,U.md),(222,U.cY),(224,U.dc),(240,U.i64),(241,U.u64),(244,U.u64),(273,U.i64),(281,U.u32),(295,U.u64),(312,U.u8),(313,U.u8),(315,U.i32),(316,U.i32)]
def apy:Go.TypeId->List (Option U):=d6 [] [(22,[some U.ba]),(25,[some U.ba]),(33,[some U.cD]),(34,[some U.cX]),(36,[none,none,some U.cD,some U.cX]),(37,[some U.cD]),(38,[some U.cX]),(40,[none,none,some U.cD,some U.cX]),(60,[some U.Item]),(62,[none,some U.Item]),(64,[some U.dr]),(66,[none,some U.dr]),(70,[some U.Item]),(72,[none,some U.Item]),(74,[some U.dr]),(76,[none,some U.dr]),(87,[some U.str]),(88,[some U.Term]),(90,[none,none,some U.str,some U.Term]),(91,[some U.cY]),(94,[some U.dc]),(96,[none,none,none,none,some U.str,some U.Term,some U.cY,none,none,none,none,some U.dc]),(99,[some U.Token]),(104,[some U.Token,none,none]),(116,[some U.u8]),(118,[none,some U.u8]),(135,[some U.Term]),(137,[none,none,some U.str,some U.Term]),(138,[some U.cY]),(140,[some U.dc]),(142,[none,none,none,none,some U.str,some U.Term,some U.cY,none,none,none,none,some U.dc]),(148,[none,none,none,some U.str,some U.Term]),(169,[some U.Token,none,none]),(201,[none,none,none,some U.Token]),(222,[none,none,none,some U.str,some U.Term])]
theorem bm:Tryz.prog.follows .mixedOrders=true:=by kernel_rfl
abbrev ax(c:aG K):Prop:=c.Ok D Tryz.prog
abbrev KT(R:Type):=Ex->List (AV K)->List (Ob K)->R
def kk{R:Type}(k:KT R)(e:Ex)(s:aK K)(v:s.T):R:=k e (aK.lX D s v) (aK.mz D s v)
def cB(f:FuncId)(sh:aK K)(run:sh.T->Option Bool):aG K:={f:=f,sh:=sh,R:=Bool,run:=run,dflt:=default,out:=fun r=>(Sh.enc D (.bool) r,aW.encs D [] ())}
def cI(f:FuncId)(sh:aK K)(run:sh.T->Option Int):aG K:={f:=f,sh:=sh,R:=Int,run:=run,dflt:=default,out:=fun r=>(Sh.enc D (.int .i64) r,aW.encs D [] ())}
def cS(f:FuncId)(sh:aK K)(run:sh.T->Option (List UInt8)):aG K:={f:=f,sh:=sh,R:=List UInt8,run:=run,dflt:=default,out:=fun r=>(Sh.enc D (.str) r,aW.encs D [] ())}
def eK:Cx K:={P:=Tryz.prog,D:=D,ty:=Nj,ni:=apy,mode:=d6 .plain [],call:=callOf D [],loop:=dR []}
def bp(m:List (FuncId×Go.V.Mode))(c:List (aG K))(l:List (Nat×bE K)):Cx K:={eK with mode:=d6 .plain m,call:=callOf D c,loop:=dR l}
theorem hq{cx:Cx K}{fn:Func}(h:(kJ (bI fn)).length=0:=by kernel_rfl):∀c,fn.body=some c->ju cx c:=aO (aL h)
theorem hl1{cx:Cx K}{fn:Func}{L:bE K}(o:bF cx (bq (bI fn) 0) L)(h:(kJ (bI fn)).length=1:=by kernel_rfl)(k:cx.loop (keyOf (bq (bI fn) 0))=some L:=by kernel_rfl):∀c,fn.body=some c->ju cx c:=aO (bP 1 h (bQ (.mk k o)))
theorem hl2{cx:Cx K}{fn:Func}{L M:bE K}(o:bF cx (bq (bI fn) 0) L)(p:bF cx (bq (bI fn) 1) M)(h:(kJ (bI fn)).length=2:=by kernel_rfl)(k:cx.loop (keyOf (bq (bI fn) 0))=some L:=by kernel_rfl)(l:cx.loop (keyOf (bq (bI fn) 1))=some M:=by kernel_rfl):∀c,fn.body=some c->ju cx c:=aO (bP 2 h (lt_succ (bQ (.mk k o)) (.mk l p)))
theorem lk{cx:Cx K}{c:Code}{n n0:Nat}{ins outs:List Nat}{sh:aK K}{Y:Type}{run:Nat->sh.T->Option Y}{bG:List (cz K Y)}{out:Y->{R:Type}->(Ex->List (AV K)->List (Ob K)->R)->R}(hc:aP cx)(hs:∀m x,gi cx c (wL cx.D n ins sh x) (P8 cx n n0 ins outs sh (run m) (zm cx.D bG))=run (m+1) x)(hx:∀d∈bG,d.e≠.normal/\∀x (R:Type) (k:Ex->List (AV K)->List (Ob K)->R),out (d.conv x) k=k d.e (d.sh.lX cx.D x) (d.sh.mz cx.D x))(hl:ju cx c:=by exact aL (by kernel_rfl))(hD:bR cx.D:=by exact ar)(hm:cx.P.follows .mixedOrders=true:=by exact bm)(h0:∀x,run 0 x=none:=by exact fun _=>rfl):bF cx c (bJ cx.D false n n0 ins outs sh (run ad) out):=bK hD hc hm hl h0 hs hx false ad
theorem aX{cx:Cx K}(fz:Bool)(hc:aP cx){c:aG K}{fn:Func}(hg:cx.P.funcs[c.f]?=some fn)(hl:∀b,fn.body=some b->ju cx b)(d:zl K cx.D c.R)(he:∀x,D2 cx fz fn (c.sh.lX cx.D x) (c.sh.mz cx.D x) d.fin=c.run x)(hD:bR cx.D:=by exact ar)(hm:cx.P.follows .mixedOrders=true:=by exact bm)(hn:(fn.name== "runtime.NumGoroutine")=false:=by kernel_rfl)(ho:∀x,([(c.out (d.conv x)).1],(c.out (d.conv x)).2)=(d.sh.lX cx.D x,d.sh.mz cx.D x):=by exact fun x=>rfl):c.Ok cx.D cx.P:=fP hD hc hm ⟨hg,hn⟩ hl d ho he
def Nk(m:Int->Option Bool):aG K:=cB 195 x9 (fun x=>m x.1.1)
def gG:Cx K:=bp [] [] []
theorem gX:aP gG:=aV ar _ aA
theorem aaC:ax (Nk (M.Nl)):=aX (cx:=gG) true gX Tryz.func195 hq ⟨zs0,fun x=>x.1.1⟩ (fun x=>by kernel_rfl)
def Nn(m:Int->Option Bool):aG K:=cB 197 x9 (fun x=>m x.1.1)
theorem aaD:ax (Nn (M.Np)):=aX (cx:=gG) true gX Tryz.func197 hq ⟨zs0,fun x=>x.1.1⟩ (fun x=>by kernel_rfl)
def nS(y:Int⊕Int){R:Type}(k:KT R):R:=match y with|.inl a0=>kk k Ex.ret ZL (((),(a0,())),())|.inr a1=>kk k (Ex.exit 0) ZM ((a1,((),())),())
def nU:List (cz K ((Int)⊕Int)):=[⟨Ex.ret,ZL,fun x=>.inl x.1.2.1⟩,⟨(Ex.exit 0),ZM,fun x=>.inr (x.1.1)⟩]
def aaE:bE K:=bJ D false 28 0 [0,1,5] [1,4] Hh (fun x=>M.vO x.1.1 ad x.1.2.1 x.1.2.2.1) nS
def W6(m:(List (List UInt8))->Int->Option Int):aG K:=cI 180 Ni (fun x=>m x.1.1 x.1.2.1)
def Hu:Cx K:=bp [] [] [(5,aaE)]
theorem aaF:aP Hu:=aV ar _ aA
theorem apz:bF Hu (bq (bI Tryz.f180) 0) aaE:=lk (cx:=Hu) (sh:=Hh) (run:=fun n x=>M.vO x.1.1 n x.1.2.1 x.1.2.2.1) (bG:=nU) aaF (fun m x=>by kernel_rfl) (af ⟨cO,fun _ _ _=>rfl⟩ (af ⟨bL,fun _ _ _=>rfl⟩ aA))
theorem anv:ax (W6 (M.Bq)):=aX (cx:=Hu) true aaF Tryz.func180 (hl1 apz) ⟨zs2,fun x=>x.1.1⟩ (fun x=>by kernel_rfl)
def iU(y:Bool⊕Unit){R:Type}(k:KT R):R:=match y with|.inl a0=>kk k Ex.ret zs0 ((a0,()),())|.inr a1=>kk k (Ex.exit 0) zs1 (((),()),())
def iV:List (cz K ((Bool)⊕Unit)):=[⟨Ex.ret,zs0,fun x=>.inl x.1.1⟩,⟨(Ex.exit 0),zs1,fun x=>.inr (())⟩]
def aaG:bE K:=bJ D false 26 0 [0,1,5] [4] ZV (fun x=>M.vP x.1.1 x.1.2.1 ad x.1.2.2.1) iU
def YB(m:(List (List UInt8))->(List (List UInt8))->Option Bool):aG K:=cB 207 ⟨[.an U.str,.an U.str],[]⟩ (fun x=>m x.1.1 x.1.2.1)
def Hw:Cx K:=bp [] [] [(4,aaG)]
theorem aaH:aP Hw:=aV ar _ aA
theorem apA:bF Hw (bq (bI Tryz.f207) 0) aaG:=lk (cx:=Hw) (sh:=ZV) (run:=fun n x=>M.vP x.1.1 x.1.2.1 n x.1.2.2.1) (bG:=iV) aaH (fun m x=>by kernel_rfl) (af ⟨cO,fun _ _ _=>rfl⟩ (af ⟨bL,fun _ _ _=>rfl⟩ aA))
theorem aoI:ax (YB (M.BZ)):=aX (cx:=Hw) true aaH Tryz.func207 (hl1 apA) ⟨zs0,fun x=>x.1.1⟩ (fun x=>by kernel_rfl)
def Bh(m:Int->Int->Int->Option Bool):aG K:=cB 50 ⟨[iq0,iq0,iq0],[]⟩ (fun x=>m x.1.1 x.1.2.1 x.1.2.2.1)
theorem FB:ax (Bh (M.Bi)):=aX (cx:=gG) true gX Tryz.func50 hq ⟨zs0,fun x=>x.1.1⟩ (fun x=>by kernel_rfl)
def aaI:bE K:=bJ D false 69 0 [0,3] [2] qY (fun x=>M.vk x.1.1 ad x.1.2.1) iU
def aaJ(m:(List UInt8)->Option Bool):aG K:=cB 184 eY (fun x=>m x.1.1)
def Hy:Cx K:=bp [] [] [(4,aaI)]
theorem aaK:aP Hy:=aV ar _ aA
theorem apB:bF Hy (bq (bI Tryz.f184) 0) aaI:=lk (cx:=Hy) (sh:=qY) (run:=fun n x=>M.vk x.1.1 n x.1.2.1) (bG:=iV) aaK (fun m x=>by kernel_rfl) (af ⟨cO,fun _ _ _=>rfl⟩ (af ⟨bL,fun _ _ _=>rfl⟩ aA))
theorem apC:ax (aaJ (M.A8)):=aX (cx:=Hy) true aaK Tryz.func184 (hl1 apB) ⟨zs0,fun x=>x.1.1⟩ (fun x=>by kernel_rfl)
def FP(m:Int->Int->Int->Option Bool):aG K:=cB 69 ⟨[iq0,iq0,iq0],[]⟩ (fun x=>m x.1.1 x.1.2.1 x.1.2.2.1)
theorem MS:ax (FP (M.FQ)):=aX (cx:=gG) true gX Tryz.func69 hq ⟨zs0,fun x=>x.1.1⟩ (fun x=>by kernel_rfl)
def apD(y:Bool⊕((List UInt8))){R:Type}(k:KT R):R:=match y with|.inl a0=>kk k Ex.ret ⟨[.any,.bool],[]⟩ (((),(a0,())),())|.inr a1=>kk k (Ex.exit 0) ⟨[.str,.any],[]⟩ ((a1,((),())),())
def apE:List (cz K ((Bool)⊕((List UInt8)))):=[⟨Ex.ret,⟨[.any,.bool],[]⟩,fun x=>.inl x.1.2.1⟩,⟨(Ex.exit 0),⟨[.str,.any],[]⟩,fun x=>.inr (x.1.1)⟩]
def aaL:bE K:=bJ D false 75 0 [0,7,8] [0,2] qZ (fun x=>M.sY x.1.1 x.1.2.1 ad x.1.2.2.1) apD
def Nq(m:(List UInt8)->Option Bool):aG K:=cB 160 eY (fun x=>m x.1.1)
def Hz:Cx K:=bp [] [] [(2,aaL)]
theorem aaM:aP Hz:=aV ar _ aA
theorem apF:bF Hz (bq (bI Tryz.f160) 0) aaL:=lk (cx:=Hz) (sh:=qZ) (run:=fun n x=>M.sY x.1.1 x.1.2.1 n x.1.2.2.1) (bG:=apE) aaM (fun m x=>by kernel_rfl) (af ⟨cO,fun _ _ _=>rfl⟩ (af ⟨bL,fun _ _ _=>rfl⟩ aA))
theorem aaN:ax (Nq (M.vj)):=aX (cx:=Hz) true aaM Tryz.func160 (hl1 apF) ⟨zs0,fun x=>x.1.1⟩ (fun x=>by kernel_rfl)
def apG(y:Int⊕((List UInt8)×Int×Int×Int)){R:Type}(k:KT R):R:=match y with|.inl a0=>kk k Ex.ret ZW (((),((),((),((),(a0,()))))),())|.inr a1=>kk k (Ex.exit 0) ZX ((a1.1,(a1.2.1,(a1.2.2.1,(a1.2.2.2,((),()))))),())
def apH:List (cz K ((Int)⊕((List UInt8)×Int×Int×Int))):=[⟨Ex.ret,ZW,fun x=>.inl x.1.2.2.2.2.1⟩,⟨(Ex.exit 0),ZX,fun x=>.inr ((x.1.1,x.1.2.1,x.1.2.2.1,x.1.2.2.2.1))⟩]
def aaO:bE K:=bJ D false 71 0 [0,3,4,5,6] [0,3,4,5,2] ZY (fun x=>M.py x.1.1 ad x.1.2.1 x.1.2.2.1 x.1.2.2.2.1 x.1.2.2.2.2.1) apG
def vQ(m:Int->Option ((List UInt8))):aG K:=cS 85 zs2 (fun x=>m x.1.1)
def aaP(m5:Int->Option ((List UInt8))):Cx K:=bp [(85,.plain)] [vQ m5] []
theorem apI(m5:Int->Option ((List UInt8)))(Nr:ax (vQ m5)):aP (aaP m5):=aV ar _ (af Nr aA)
theorem apJ(m5:Int->Option ((List UInt8)))(Nr:ax (vQ m5)):ax (vQ (M.xY m5)):=fP (cx:=aaP m5) (fz:=true) ar (apI m5 Nr) bm ⟨Tryz.func85,by kernel_rfl⟩ hq ⟨eY,fun x=>x.1.1⟩ (fun x=>rfl) (fun x=>by kernel_rfl)
theorem aaQ:∀n,ax (vQ (M.px n))|0=>nw fun _=>rfl|n+1=>apJ (M.px n) (aaQ n)
theorem apK:ax (vQ (M.vl)):=aaQ ad
def aaR(m:Int->Option ((List UInt8))):aG K:=cS 51 zs2 (fun x=>m x.1.1)
def aaS:Cx K:=bp [(85,.plain)] [vQ M.vl] []
theorem apL:aP aaS:=aV ar _ (af apK aA)
theorem apM:ax (aaR (M.Bd)):=aX (cx:=aaS) true apL Tryz.func51 hq ⟨eY,fun x=>x.1.1⟩ (fun x=>by kernel_rfl)
def aaT(m:(List UInt8)->Option Int):aG K:=cI 31 eY (fun x=>m x.1.1)
def HA:Cx K:=bp [(50,.plain),(51,.plain)] [Bh M.Bi,aaR M.Bd] [(3,aaO)]
theorem aaU:aP HA:=aV ar _ (af FB (af apM aA))
theorem apN:bF HA (bq (bI Tryz.f31) 0) aaO:=lk (cx:=HA) (sh:=ZY) (run:=fun n x=>M.py x.1.1 n x.1.2.1 x.1.2.2.1 x.1.2.2.2.1 x.1.2.2.2.2.1) (bG:=apH) aaU (fun m x=>by kernel_rfl) (af ⟨cO,fun _ _ _=>rfl⟩ (af ⟨bL,fun _ _ _=>rfl⟩ aA))
theorem apO:ax (aaT (M.Bf)):=aX (cx:=HA) true aaU Tryz.func31 (hl1 apN) ⟨zs2,fun x=>x.1.1⟩ (fun x=>by kernel_rfl)
def aaV(m:(List UInt8)->Option Bool):aG K:=cB 19 eY (fun x=>m x.1.1)
def aaW:Cx K:=bp [(31,.plain)] [aaT M.Bf] []
theorem apP:aP aaW:=aV ar _ (af apO aA)
theorem apQ:ax (aaV (M.Be)):=aX (cx:=aaW) true apP Tryz.func19 hq ⟨zs0,fun x=>x.1.1⟩ (fun x=>by kernel_rfl)
def apR(y:(Int×Bool)⊕Int){R:Type}(k:KT R):R:=match y with|.inl a0=>kk k Ex.ret ⟨[.any,iq0,.bool],[]⟩ (((),(a0.1,(a0.2,()))),())|.inr a1=>kk k (Ex.exit 0) ⟨[iq0,.any,.any],[]⟩ ((a1,((),((),()))),())
def apS:List (cz K ((Int×Bool)⊕Int)):=[⟨Ex.ret,⟨[.any,iq0,.bool],[]⟩,fun x=>.inl (x.1.2.1,x.1.2.2.1)⟩,⟨(Ex.exit 0),⟨[iq0,.any,.any],[]⟩,fun x=>.inr (x.1.1)⟩]
def aaX:bE K:=bJ D false 39 0 [5,15,16,17] [5,2,3] ZZ (fun x=>M.qQ x.1.2.1 x.1.2.2.1 ad x.1.1 x.1.2.2.2.1) apR
def aaY(m:(List UInt8)->Option (Int×Bool)):aG K:={f:=52,sh:=eY,R:=Int×Bool,run:=fun x=>m x.1.1,dflt:=default,out:=fun r=>(Sh.enc D (.bC [iq0,.bool]) (r.1,(r.2,())),aW.encs D [] ())}
def HD:Cx K:=bp [(86,.jH),(87,.plain),(69,.plain)] [K7 M.strings_Split,K6 M.qj,FP M.FQ] [(6,aaX)]
theorem aaZ:aP HD:=aV ar _ (af ag9 (af ag8 (af MS aA)))
theorem apT:bF HD (bq (bI Tryz.f52) 0) aaX:=lk (cx:=HD) (sh:=ZZ) (run:=fun n x=>M.qQ x.1.2.1 x.1.2.2.1 n x.1.1 x.1.2.2.2.1) (bG:=apS) aaZ (fun m x=>by kernel_rfl) (af ⟨cO,fun _ _ _=>rfl⟩ (af ⟨bL,fun _ _ _=>rfl⟩ aA))
theorem apU:ax (aaY (M.Ba)):=aX (cx:=HD) true aaZ Tryz.func52 (hl1 apT) ⟨⟨[.bC [iq0,.bool]],[]⟩,fun x=>(x.1.1.1,x.1.1.2.1)⟩ (fun x=>by kernel_rfl)
def aa0(m:(List UInt8)->Option Bool):aG K:=cB 34 eY (fun x=>m x.1.1)
def aa1:Cx K:=bp [(52,.plain)] [aaY M.Ba] []
theorem apV:aP aa1:=aV ar _ (af apU aA)
theorem apW:ax (aa0 (M.A9)):=aX (cx:=aa1) true apV Tryz.func34 hq ⟨zs0,fun x=>x.1.1⟩ (fun x=>by kernel_rfl)
def G5(y:Int⊕Unit){R:Type}(k:KT R):R:=match y with|.inl a0=>kk k Ex.ret zs2 ((a0,()),())|.inr a1=>kk k (Ex.exit 0) zs1 (((),()),())
def G6:List (cz K ((Int)⊕Unit)):=[⟨Ex.ret,zs2,fun x=>.inl x.1.1⟩,⟨(Ex.exit 0),zs1,fun x=>.inr (())⟩]
def aa2:bE K:=bJ D false 19 0 [0,1,7,8] [4] Z0 (fun x=>M.uK x.1.1 x.1.2.1 x.1.2.2.1 ad x.1.2.2.2.1) G5
def Ns(m:(List (List UInt8))->(List UInt8)->Option Int):aG K:=cI 234 ⟨[.an U.str,.str],[]⟩ (fun x=>m x.1.1 x.1.2.1)
def HE:Cx K:=bp [] [] [(2,aa2)]
theorem aa3:aP HE:=aV ar _ aA
theorem apX:bF HE (bq (bI Tryz.f234) 0) aa2:=lk (cx:=HE) (sh:=Z0) (run:=fun n x=>M.uK x.1.1 x.1.2.1 x.1.2.2.1 n x.1.2.2.2.1) (bG:=G6) aa3 (fun m x=>by kernel_rfl) (af ⟨cO,fun _ _ _=>rfl⟩ (af ⟨bL,fun _ _ _=>rfl⟩ aA))
theorem aa4:ax (Ns (M.uJ)):=aX (cx:=HE) true aa3 Tryz.func234 (hl1 apX) ⟨zs2,fun x=>x.1.1⟩ (fun x=>by kernel_rfl)
def aa5(m:(List (List UInt8))->(List UInt8)->Option Bool):aG K:=cB 256 ⟨[.an U.str,.str],[]⟩ (fun x=>m x.1.1 x.1.2.1)
def aa6:Cx K:=bp [(234,.plain)] [Ns M.uJ] []
theorem apY:aP aa6:=aV ar _ (af aa4 aA)
theorem apZ:ax (aa5 (M.Ey)):=aX (cx:=aa6) true apY Tryz.func256 hq ⟨zs0,fun x=>x.1.1⟩ (fun x=>by kernel_rfl)
def ap0(y:(List (List UInt8))){R:Type}(k:KT R):R:=match y with|a0=>kk k (Ex.exit 0) ⟨[.own 1],[.dead,.arr U.str]⟩ (((),()),((),(a0,())))
def ap1:List (cz K ((List (List UInt8)))):=[⟨(Ex.exit 0),⟨[.own 1],[.dead,.arr U.str]⟩,fun x=>x.2.2.1⟩]
def aa7:bE K:=bJ D false 22 1 [0,3,4] [3] Z1 (fun x=>M.tD x.1.1 ad x.1.2.2.1 x.2.2.1) ap0
def XQ(m:(List (List UInt8))->Option ((List (List UInt8)))):aG K:={f:=189,sh:=yp,R:=(List (List UInt8)),run:=fun x=>m x.1.1,dflt:=default,out:=fun r=>(Sh.enc D (.own 0) (),aW.encs D [.arr U.str] (r,()))}
def HG:Cx K:={eK with mode:=d6 .plain [],iq:=[[some U.str]],deep:=fun c=>eI (D.cells c (K.zero c)),call:=callOf D [],loop:=dR [(3,aa7)]}
theorem aa8:aP HG:=aV ar _ aA
theorem ap2:bF HG (bq (bI Tryz.f189) 0) aa7:=lk (cx:=HG) (sh:=Z1) (run:=fun n x=>M.tD x.1.1 n x.1.2.2.1 x.2.2.1) (bG:=ap1) aa8 (fun m x=>by kernel_rfl) (af ⟨bL,fun _ _ _=>rfl⟩ aA)
theorem an2:ax (XQ (M.BK)):=aX (cx:=HG) false aa8 Tryz.func189 (hl1 ap2) ⟨⟨[.own 0],[.arr U.str]⟩,fun x=>x.2.1⟩ (fun x=>by kernel_rfl)
def ap3(y:(List UInt8)×Int×Int){R:Type}(k:KT R):R:=match y with|a0=>kk k (Ex.exit 3) qZ ((a0.1,(a0.2.1,(a0.2.2,()))),())
def ap4:List (cz K ((List UInt8)×Int×Int)):=[⟨(Ex.exit 3),qZ,fun x=>(x.1.1,x.1.2.1,x.1.2.2.1)⟩]
def aa9:bE K:=bJ D false 63 0 [0,1,2] [0,1,2] qZ (fun x=>M.wS x.1.1 x.1.2.2.1 ad x.1.2.1) ap3
def ap5(y:(Int×Int)⊕(Int×Int)){R:Type}(k:KT R):R:=match y with|.inl a0=>kk k Ex.ret Z2 (((),((),(a0.1,(a0.2,())))),())|.inr a1=>kk k (Ex.exit 0) Z3 ((a1.1,(a1.2,((),((),())))),())
def ap6:List (cz K ((Int×Int)⊕(Int×Int))):=[⟨Ex.ret,Z2,fun x=>.inl (x.1.2.2.1,x.1.2.2.2.1)⟩,⟨(Ex.exit 0),Z3,fun x=>.inr ((x.1.1,x.1.2.1))⟩]
def aba:bE K:=bJ D false 63 0 [0,1,2] [1,2,6,7] qZ (fun x=>M.ql ad x.1.1 x.1.2.1 x.1.2.2.1) ap5
def abb(m:(List UInt8)->Int->Int->Option (Int×Int)):aG K:={f:=92,sh:=qZ,R:=Int×Int,run:=fun x=>m x.1.1 x.1.2.1 x.1.2.2.1,dflt:=default,out:=fun r=>(Sh.enc D (.bC [iq0,iq0]) (r.1,(r.2,())),aW.encs D [] ())}
def yt:Cx K:=bp [] [] [(9,aa9),(1,aba)]
theorem Nu:aP yt:=aV ar _ aA
theorem ap7:bF yt (bq (bq (bI Tryz.f92) 0) 0) aa9:=lk (cx:=yt) (sh:=qZ) (run:=fun n x=>M.wS x.1.1 x.1.2.2.1 n x.1.2.1) (bG:=ap4) Nu (fun m x=>by kernel_rfl) (af ⟨bL,fun _ _ _=>rfl⟩ aA)
theorem ap8:bF yt (bq (bI Tryz.f92) 0) aba:=lk (cx:=yt) (sh:=qZ) (run:=fun n x=>M.ql n x.1.1 x.1.2.1 x.1.2.2.1) (bG:=ap6) Nu (fun m x=>by kernel_rfl) (af ⟨cO,fun _ _ _=>rfl⟩ (af ⟨bL,fun _ _ _=>rfl⟩ aA)) (hl:=(bP 1 (by kernel_rfl) (bQ (.mk (by kernel_rfl) ap7))))
theorem ap9:ax (abb (M.uE)):=aX (cx:=yt) true Nu Tryz.func92 (hl1 ap8) ⟨Gg,fun x=>(x.1.1.1,x.1.1.2.1)⟩ (fun x=>by kernel_rfl)
def Nv(m:Int->Option Bool):aG K:=cB 132 x9 (fun x=>m x.1.1)
theorem abd:ax (Nv (M.Nw)):=aX (cx:=gG) true gX Tryz.func132 hq ⟨zs0,fun x=>x.1.1⟩ (fun x=>by kernel_rfl)
def HH(m:Int->Option Bool):aG K:=cB 134 x9 (fun x=>m x.1.1)
theorem Nx:ax (HH (M.HJ)):=aX (cx:=gG) true gX Tryz.func134 hq ⟨zs0,fun x=>x.1.1⟩ (fun x=>by kernel_rfl)
def abe:bE K:=bJ D false 53 0 [0,1] [1,4] qY (fun x=>M.uG x.1.1 ad x.1.2.1) nS
def abf(m:(List UInt8)->Int->Option Int):aG K:=cI 133 qY (fun x=>m x.1.1 x.1.2.1)
def HK:Cx K:=bp [(132,.plain),(134,.plain)] [Nv M.Nw,HH M.HJ] [(1,abe)]
theorem abg:aP HK:=aV ar _ (af abd (af Nx aA))
theorem aqa:bF HK (bq (bI Tryz.f133) 0) abe:=lk (cx:=HK) (sh:=qY) (run:=fun n x=>M.uG x.1.1 n x.1.2.1) (bG:=nU) abg (fun m x=>by kernel_rfl) (af ⟨cO,fun _ _ _=>rfl⟩ (af ⟨bL,fun _ _ _=>rfl⟩ aA))
theorem aqb:ax (abf (M.zw)):=aX (cx:=HK) true abg Tryz.func133 (hl1 aqa) ⟨zs2,fun x=>x.1.1⟩ (fun x=>by kernel_rfl)
def abh:bE K:=bJ D false 39 0 [0,1] [1,4] qY (fun x=>M.uH x.1.1 ad x.1.2.1) nS
def abj(m:(List UInt8)->Int->Option Int):aG K:=cI 135 qY (fun x=>m x.1.1 x.1.2.1)
def HM:Cx K:=bp [(134,.plain)] [HH M.HJ] [(1,abh)]
theorem abk:aP HM:=aV ar _ (af Nx aA)
theorem aqc:bF HM (bq (bI Tryz.f135) 0) abh:=lk (cx:=HM) (sh:=qY) (run:=fun n x=>M.uH x.1.1 n x.1.2.1) (bG:=nU) abk (fun m x=>by kernel_rfl) (af ⟨cO,fun _ _ _=>rfl⟩ (af ⟨bL,fun _ _ _=>rfl⟩ aA))
theorem aqd:ax (abj (M.zx)):=aX (cx:=HM) true abk Tryz.func135 (hl1 aqc) ⟨zs2,fun x=>x.1.1⟩ (fun x=>by kernel_rfl)
def abl:bE K:=bJ D false 16 0 [0,3,4] [2] ⟨[.int .u8,.str,iq0],[]⟩ (fun x=>M.rW x.1.1 x.1.2.1 ad x.1.2.2.1) iU
def abm(m:Int->Option Bool):aG K:=cB 136 x9 (fun x=>m x.1.1)
def HO:Cx K:=bp [] [] [(3,abl)]
theorem abn:aP HO:=aV ar _ aA
theorem aqe:bF HO (bq (bI Tryz.f136) 0) abl:=lk (cx:=HO) (sh:=⟨[.int .u8,.str,iq0],[]⟩) (run:=fun n x=>M.rW x.1.1 x.1.2.1 n x.1.2.2.1) (bG:=iV) abn (fun m x=>by kernel_rfl) (af ⟨cO,fun _ _ _=>rfl⟩ (af ⟨bL,fun _ _ _=>rfl⟩ aA))
theorem aqf:ax (abm (M.zz)):=aX (cx:=HO) true abn Tryz.func136 (hl1 aqe) ⟨zs0,fun x=>x.1.1⟩ (fun x=>by kernel_rfl)
def abo(m:(List UInt8)->Int->Option (M.ai×Int)):aG K:={f:=93,sh:=qY,R:=M.ai×Int,run:=fun x=>m x.1.1 x.1.2.1,dflt:=default,out:=fun r=>(Sh.enc D (.bC [.el U.Token,iq0]) (r.1,(r.2,())),aW.encs D [] ())}
def abp:Cx K:=bp [(132,.plain),(133,.plain),(134,.plain),(135,.plain),(136,.plain)] [Nv M.Nw,abf M.zw,HH M.HJ,abj M.zx,abm M.zz] []
theorem aqg:aP abp:=aV ar _ (af abd (af aqb (af Nx (af aqd (af aqf aA)))))
theorem aqh:ax (abo (M.zB)):=aX (cx:=abp) true aqg Tryz.func93 hq ⟨⟨[.bC [.el U.Token,iq0]],[]⟩,fun x=>(x.1.1.1,x.1.1.2.1)⟩ (fun x=>by kernel_rfl)
def aqi(y:(Int×Int×(List M.ai))⊕(Int×(List M.ai))){R:Type}(k:KT R):R:=match y with|.inl a0=>kk k Ex.ret Z4 (((),((),((),(a0.1,(a0.2.1,()))))),((),((),(a0.2.2,()))))|.inr a1=>kk k (Ex.exit 0) Z5 (((),(a1.1,((),((),((),()))))),((),(a1.2,())))
def aqj:List (cz K ((Int×Int×(List M.ai))⊕(Int×(List M.ai)))):=[⟨Ex.ret,Z4,fun x=>.inl (x.1.2.2.2.1,x.1.2.2.2.2.1,x.2.2.2.1)⟩,⟨(Ex.exit 0),Z5,fun x=>.inr ((x.1.2.1,x.2.2.1))⟩]
def abq:bE K:=bJ D false 54 1 [0,5,6,7] [5,7,2,3,4] Z6 (fun x=>M.wX x.1.1 ad x.1.2.2.1 x.1.2.2.2.1 x.2.2.1) aqi
def Uw(m:(List UInt8)->Option ((List M.ai)×Int×Int)):aG K:={f:=57,sh:=eY,R:=(List M.ai)×Int×Int,run:=fun x=>m x.1.1,dflt:=default,out:=fun r=>(Sh.enc D (.bC [.an U.Token,iq0,iq0]) (r.1,(r.2.1,(r.2.2,()))),aW.encs D [] ())}
def HQ:Cx K:=bp [(92,.plain),(93,.plain)] [abb M.uE,abo M.zB] [(5,abq)]
theorem abr:aP HQ:=aV ar _ (af ap9 (af aqh aA))
theorem aqk:bF HQ (bq (bI Tryz.f57) 0) abq:=lk (cx:=HQ) (sh:=Z6) (run:=fun n x=>M.wX x.1.1 n x.1.2.2.1 x.1.2.2.2.1 x.2.2.1) (bG:=aqj) abr (fun m x=>by kernel_rfl) (af ⟨cO,fun _ _ _=>rfl⟩ (af ⟨bL,fun _ _ _=>rfl⟩ aA))
theorem akV:ax (Uw (M.zC)):=aX (cx:=HQ) true abr Tryz.func57 (hl1 aqk) ⟨Z7,fun x=>(x.1.1.1,x.1.1.2.1,x.1.1.2.2.1)⟩ (fun x=>by kernel_rfl)
def abt(m:(List UInt8)->(List UInt8)->Option Bool):aG K:=cB 228 yo (fun x=>m x.1.1 x.1.2.1)
theorem aql:ax (abt (M.Ej)):=aX (cx:=gG) true gX Tryz.func228 hq ⟨zs0,fun x=>x.1.1⟩ (fun x=>by kernel_rfl)
def Ny(m:(List UInt8)->(List UInt8)->Option Bool):aG K:=cB 194 yo (fun x=>m x.1.1 x.1.2.1)
def abu:Cx K:=bp [(228,.plain)] [abt M.Ej] []
theorem aqm:aP abu:=aV ar _ (af aql aA)
theorem abv:ax (Ny (M.strings_HasPrefix)):=aX (cx:=abu) true aqm Tryz.func194 hq ⟨zs0,fun x=>x.1.1⟩ (fun x=>by kernel_rfl)
def aqn(y:(List UInt8)×Int×Int×(List M.ai)){R:Type}(k:KT R):R:=match y with|a0=>kk k (Ex.exit 3) yq (((),()),((a0.1,(a0.2.1,(a0.2.2.1,((),())))),((),(a0.2.2.2,()))))
def aqo:List (cz K ((List UInt8)×Int×Int×(List M.ai))):=[⟨(Ex.exit 3),yq,fun x=>(x.2.1.1,x.2.1.2.1,x.2.1.2.2.1,x.2.2.2.1)⟩]
def abw:bE K:=bJ D false 89 2 [0] [0] yq (fun x=>M.wT x.2.1.1 x.2.1.2.2.1 x.2.2.2.1 ad x.2.1.2.1) aqn
def aqp(y:((List UInt8)×Int×Int×(List M.ai))⊕((List UInt8)×Int×Int×(List M.ai))){R:Type}(k:KT R):R:=match y with|.inl a0=>kk k Ex.ret Hj ((),((a0.1,(a0.2.1,(a0.2.2.1,((),())))),((),(a0.2.2.2,()))))|.inr a1=>kk k (Ex.exit 0) Hj ((),((a1.1,(a1.2.1,(a1.2.2.1,((),())))),((),(a1.2.2.2,()))))
def aqr:List (cz K (((List UInt8)×Int×Int×(List M.ai))⊕((List UInt8)×Int×Int×(List M.ai)))):=[⟨Ex.ret,Hj,fun x=>.inl (x.2.1.1,x.2.1.2.1,x.2.1.2.2.1,x.2.2.2.1)⟩,⟨(Ex.exit 0),Hj,fun x=>.inr ((x.2.1.1,x.2.1.2.1,x.2.1.2.2.1,x.2.2.2.1))⟩]
def abx:bE K:=bJ D false 89 2 [0] [] yq (fun x=>M.qn ad x.2.1.1 x.2.1.2.1 x.2.1.2.2.1 x.2.2.2.1) aqp
def aby(m:(List UInt8)->Int->Int->(List M.ai)->Option ((List UInt8)×Int×Int×(List M.ai))):aG K:={f:=157,sh:=⟨[.ptr 0 0],[.box [.str,iq0,iq0,.own 1],.arr U.Token]⟩,R:=(List UInt8)×Int×Int×(List M.ai),run:=fun x=>m x.2.1.1 x.2.1.2.1 x.2.1.2.2.1 x.2.2.1,dflt:=default,out:=fun r=>(Sh.enc D (.bC []) (),aW.encs D [.box [.str,iq0,iq0,.own 2],.dead,.arr U.Token] ((r.1,(r.2.1,(r.2.2.1,((),())))),((),(r.2.2.2,()))))}
def yu:Cx K:={eK with mode:=d6 .plain [(194,.plain)],mv:=true,call:=callOf D [Ny M.strings_HasPrefix],loop:=dR [(8,abw),(0,abx)]}
theorem Nz:aP yu:=aV ar _ (af abv aA)
theorem aqs:bF yu (bq (bq (bI Tryz.f157) 0) 0) abw:=lk (cx:=yu) (sh:=yq) (run:=fun n x=>M.wT x.2.1.1 x.2.1.2.2.1 x.2.2.2.1 n x.2.1.2.1) (bG:=aqo) Nz (fun m x=>by kernel_rfl) (af ⟨bL,fun _ _ _=>rfl⟩ aA)
theorem aqt:bF yu (bq (bI Tryz.f157) 0) abx:=lk (cx:=yu) (sh:=yq) (run:=fun n x=>M.qn n x.2.1.1 x.2.1.2.1 x.2.1.2.2.1 x.2.2.2.1) (bG:=aqr) Nz (fun m x=>by kernel_rfl) (af ⟨cO,fun _ _ _=>rfl⟩ (af ⟨bL,fun _ _ _=>rfl⟩ aA)) (hl:=(bP 1 (by kernel_rfl) (bQ (.mk (by kernel_rfl) aqs))))
theorem aqu:ax (aby (M.uF)):=aX (cx:=yu) true Nz Tryz.func157 (hl1 aqt) ⟨⟨[.bC []],[.box [.str,iq0,iq0,.own 2],.dead,.arr U.Token]⟩,fun x=>(x.2.1.1,x.2.1.2.1,x.2.1.2.2.1,x.2.2.2.1)⟩ (fun x=>by kernel_rfl)
def abz(m:M.iv->Int->Option Int):aG K:={f:=229,sh:=⟨[.rp U.md 0,iq0],[]⟩,R:=Int,run:=fun x=>m x.1.1 x.1.2.1,dflt:=default,out:=fun r=>(Sh.enc D (.int .u8) r,aW.encs D [] ())}
theorem aqv:ax (abz (M.zy)):=aX (cx:=gG) true gX Tryz.func229 hq ⟨x9,fun x=>x.1.1⟩ (fun x=>by kernel_rfl)
def aqw(y:Int){R:Type}(k:KT R):R:=match y with|a0=>kk k (Ex.exit 0) zs2 ((a0,()),())
def aqx:List (cz K Int):=[⟨(Ex.exit 0),zs2,fun x=>x.1.1⟩]
def abA:bE K:=bJ D false 79 0 [0,1,5] [1] ⟨[.rp U.md 0,iq0,.bool],[]⟩ (fun x=>M.wV x.1.1 x.1.2.2.1 ad x.1.2.1) aqw
def abB(m:M.iv->Int->Option Int):aG K:=cI 196 ⟨[.rp U.md 0,iq0],[]⟩ (fun x=>m x.1.1 x.1.2.1)
def HS:Cx K:=bp [(195,.plain),(229,.plain),(197,.plain)] [Nk M.Nl,abz M.zy,Nn M.Np] [(3,abA)]
theorem abC:aP HS:=aV ar _ (af aaC (af aqv (af aaD aA)))
theorem aqy:bF HS (bq (bI Tryz.f196) 0) abA:=lk (cx:=HS) (sh:=⟨[.rp U.md 0,iq0,.bool],[]⟩) (run:=fun n x=>M.wV x.1.1 x.1.2.2.1 n x.1.2.1) (bG:=aqx) abC (fun m x=>by kernel_rfl) (af ⟨bL,fun _ _ _=>rfl⟩ aA)
theorem aqz:ax (abB (M.wW)):=aX (cx:=HS) true abC Tryz.func196 (hl1 aqy) ⟨zs2,fun x=>x.1.1⟩ (fun x=>by kernel_rfl)
def abD(m:M.iv->Option (Int×Int)):aG K:={f:=158,sh:=⟨[.rp U.md 0],[]⟩,R:=Int×Int,run:=fun x=>m x.1.1,dflt:=default,out:=fun r=>(Sh.enc D (.bC [iq0,iq0]) (r.1,(r.2,())),aW.encs D [] ())}
def abE:Cx K:=bp [(195,.plain),(196,.plain),(197,.plain),(194,.plain),(198,.plain)] [Nk M.Nl,abB M.wW,Nn M.Np,Ny M.strings_HasPrefix,K2 M.strings_IndexByte] []
theorem aqA:aP abE:=aV ar _ (af aaC (af aqz (af aaD (af abv (af agN aA)))))
theorem aqB:ax (abD (M.zA)):=aX (cx:=abE) true aqA Tryz.func158 hq ⟨Gg,fun x=>(x.1.1.1,x.1.1.2.1)⟩ (fun x=>by kernel_rfl)
def aqC(y:(Int×Int)⊕((List UInt8)×Int×Int×(List M.ai))){R:Type}(k:KT R):R:=match y with|.inl a0=>kk k Ex.ret Z8 (((),((),(a0.1,(a0.2,())))),((),((),((),()))))|.inr a1=>kk k (Ex.exit 0) Z9 (((),((),((),((),())))),((a1.1,(a1.2.1,(a1.2.2.1,((),())))),((),(a1.2.2.2,()))))
def aqD:List (cz K ((Int×Int)⊕((List UInt8)×Int×Int×(List M.ai)))):=[⟨Ex.ret,Z8,fun x=>.inl (x.1.2.2.1,x.1.2.2.2.1)⟩,⟨(Ex.exit 0),Z9,fun x=>.inr ((x.2.1.1,x.2.1.2.1,x.2.1.2.2.1,x.2.2.2.1))⟩]
def abG:bE K:=bJ D false 85 2 [0,5] [5,2,3,4] aab (fun x=>M.wY x.1.1 ad x.2.1.1 x.2.1.2.1 x.2.1.2.2.1 x.2.2.2.1) aqC
def abH(m:(List UInt8)->Option ((List M.ai)×Int×Int)):aG K:={f:=109,sh:=eY,R:=(List M.ai)×Int×Int,run:=fun x=>m x.1.1,dflt:=default,out:=fun r=>(Sh.enc D (.bC [.an U.Token,iq0,iq0]) (r.1,(r.2.1,(r.2.2,()))),aW.encs D [] ())}
def HU:Cx K:=bp [(157,.bg),(158,.plain)] [aby M.uF,abD M.zA] [(5,abG)]
theorem abI:aP HU:=aV ar _ (af aqu (af aqB aA))
theorem aqE:bF HU (bq (bI Tryz.f109) 0) abG:=lk (cx:=HU) (sh:=aab) (run:=fun n x=>M.wY x.1.1 n x.2.1.1 x.2.1.2.1 x.2.1.2.2.1 x.2.2.2.1) (bG:=aqD) abI (fun m x=>by kernel_rfl) (af ⟨cO,fun _ _ _=>rfl⟩ (af ⟨bL,fun _ _ _=>rfl⟩ aA))
theorem aqF:ax (abH (M.zD)):=aX (cx:=HU) true abI Tryz.func109 (hl1 aqE) ⟨Z7,fun x=>(x.1.1.1,x.1.1.2.1,x.1.1.2.2.1)⟩ (fun x=>by kernel_rfl)
def vq(m:M.aD->Option (M.ai×M.aD)):aG K:={f:=59,sh:=mZ,R:=M.ai×M.aD,run:=fun x=>m x.2.1,dflt:=default,out:=fun r=>(Sh.enc D (.el U.Token) r.1,aW.encs D [.el U.dm] (r.2,()))}
theorem x7:ax (vq (M.kL)):=aX (cx:=gG) true gX Tryz.func59 hq ⟨⟨[.el U.Token],[.el U.dm]⟩,fun x=>(x.1.1,x.2.1)⟩ (fun x=>by kernel_rfl)
def abJ(m:(List UInt8)->Option Bool):aG K:=cB 137 eY (fun x=>m x.1.1)
def abK:Cx K:=bp [(184,.plain)] [aaJ M.A8] []
theorem aqG:aP abK:=aV ar _ (af apC aA)
theorem aqH:ax (abJ (M.zG)):=aX (cx:=abK) true aqG Tryz.func137 hq ⟨zs0,fun x=>x.1.1⟩ (fun x=>by kernel_rfl)
def HV(m:M.aD->Option (M.aD)):aG K:={f:=138,sh:=mZ,R:=M.aD,run:=fun x=>m x.2.1,dflt:=default,out:=fun r=>(Sh.enc D (.bC []) (),aW.encs D [.el U.dm] (r,()))}
theorem NA:ax (HV (M.qo)):=aX (cx:=gG) true gX Tryz.func138 hq ⟨MN,fun x=>x.2.1⟩ (fun x=>by kernel_rfl)
def pz(m:M.aD->Option ((List UInt8)×M.aD)):aG K:={f:=95,sh:=mZ,R:=(List UInt8)×M.aD,run:=fun x=>m x.2.1,dflt:=default,out:=fun r=>(Sh.enc D (.str) r.1,aW.encs D [.el U.dm] (r.2,()))}
def abL:Cx K:=bp [(59,.bg),(137,.plain),(138,.bg)] [vq M.kL,abJ M.zG,HV M.qo] []
theorem aqI:aP abL:=aV ar _ (af x7 (af aqH (af NA aA)))
theorem qU:ax (pz (M.fR)):=aX (cx:=abL) true aqI Tryz.func95 hq ⟨MO,fun x=>(x.1.1,x.2.1)⟩ (fun x=>by kernel_rfl)
def MP(m:Option ((List (List UInt8)))):aG K:={f:=143,sh:=⟨[],[]⟩,R:=(List (List UInt8)),run:=fun x=>m,dflt:=default,out:=fun r=>(Sh.enc D (.own 0) (),aW.encs D [.arr U.str] (r,()))}
def abM:Cx K:={eK with mode:=d6 .plain [],iq:=[[some U.str]],call:=callOf D [],loop:=dR []}
theorem aqJ:aP abM:=aV ar _ aA
theorem UM:ax (MP (M.jw)):=aX (cx:=abM) false aqJ Tryz.func143 hq ⟨⟨[.own 0],[.arr U.str]⟩,fun x=>x.2.1⟩ (fun x=>by kernel_rfl)
def MQ(m:Option ((List (List UInt8)))):aG K:={f:=144,sh:=⟨[],[]⟩,R:=(List (List UInt8)),run:=fun x=>m,dflt:=default,out:=fun r=>(Sh.enc D (.an U.str) r,aW.encs D [] ())}
theorem UN:ax (MQ (M.jx)):=aX (cx:=gG) true gX Tryz.func144 hq ⟨yp,fun x=>x.1.1⟩ (fun x=>by kernel_rfl)
def aqK(y:Int⊕Unit){R:Type}(k:KT R):R:=match y with|.inl a0=>kk k Ex.ret ⟨[iq0],[.dead]⟩ ((a0,()),((),()))|.inr a1=>kk k (Ex.exit 0) Hk (((),()),((),()))
def aqL:List (cz K ((Int)⊕Unit)):=[⟨Ex.ret,⟨[iq0],[.dead]⟩,fun x=>.inl x.1.1⟩,⟨(Ex.exit 0),Hk,fun x=>.inr (())⟩]
def abN:bE K:=bJ D false 22 1 [0,3,4] [2] aac (fun x=>M.rZ x.1.1 x.2.2.1 ad x.1.2.2.1) aqK
def NB(m:(List UInt8)->Option Int):aG K:=cI 223 eY (fun x=>m x.1.1)
def HY:Cx K:=bp [(143,.fresh),(144,.jH)] [MP M.jw,MQ M.jx] [(3,abN)]
theorem abO:aP HY:=aV ar _ (af UM (af UN aA))
theorem aqM:bF HY (bq (bI Tryz.f223) 0) abN:=lk (cx:=HY) (sh:=aac) (run:=fun n x=>M.rZ x.1.1 x.2.2.1 n x.1.2.2.1) (bG:=aqL) abO (fun m x=>by kernel_rfl) (af ⟨cO,fun _ _ _=>rfl⟩ (af ⟨bL,fun _ _ _=>rfl⟩ aA))
theorem abP:ax (NB (M.rY)):=aX (cx:=HY) true abO Tryz.func223 (hl1 aqM) ⟨zs2,fun x=>x.1.1⟩ (fun x=>by kernel_rfl)
def abQ(m:(List UInt8)->M.aD->Option (Bool×M.aD)):aG K:={f:=139,sh:=Hl,R:=Bool×M.aD,run:=fun x=>m x.1.2.1 x.2.1,dflt:=default,out:=fun r=>(Sh.enc D (.bool) r.1,aW.encs D [.el U.dm] (r.2,()))}
def abR:Cx K:=bp [(59,.bg)] [vq M.kL] []
theorem aqN:aP abR:=aV ar _ (af x7 aA)
theorem aqO:ax (abQ (M.zF)):=aX (cx:=abR) true aqN Tryz.func139 hq ⟨⟨[.bool],[.el U.dm]⟩,fun x=>(x.1.1,x.2.1)⟩ (fun x=>by kernel_rfl)
def me(m:(List UInt8)->M.aD->Option (Bool×M.aD)):aG K:={f:=97,sh:=Hl,R:=Bool×M.aD,run:=fun x=>m x.1.2.1 x.2.1,dflt:=default,out:=fun r=>(Sh.enc D (.bool) r.1,aW.encs D [.el U.dm] (r.2,()))}
def abS:Cx K:=bp [(139,.bg),(138,.bg)] [abQ M.zF,HV M.qo] []
theorem aqP:aP abS:=aV ar _ (af aqO (af NA aA))
theorem mY:ax (me (M.dJ)):=aX (cx:=abS) true aqP Tryz.func97 hq ⟨⟨[.bool],[.el U.dm]⟩,fun x=>(x.1.1,x.2.1)⟩ (fun x=>by kernel_rfl)
def mX(m:(List UInt8)->M.aD->Option (M.aD)):aG K:={f:=94,sh:=Hl,R:=M.aD,run:=fun x=>m x.1.2.1 x.2.1,dflt:=default,out:=fun r=>(Sh.enc D (.bC []) (),aW.encs D [.el U.dm] (r,()))}
def abT:Cx K:=bp [(97,.bg)] [me M.dJ] []
theorem aqQ:aP abT:=aV ar _ (af mY aA)
theorem nQ:ax (mX (M.dE)):=aX (cx:=abT) true aqQ Tryz.func94 hq ⟨MN,fun x=>x.2.1⟩ (fun x=>by kernel_rfl)
def abU(m:Int->M.au->Option ((List UInt8)×M.au)):aG K:={f:=159,sh:=⟨[.ptr 0 0,iq0,.fn 160 []],[.el U.parser]⟩,R:=(List UInt8)×M.au,run:=fun x=>m x.1.2.1 x.2.1,dflt:=default,out:=fun r=>(Sh.enc D (.str) r.1,aW.encs D [.el U.parser] (r.2,()))}
def abV:Cx K:=bp [(160,.plain)] [Nq M.vj] []
theorem aqR:aP abV:=aV ar _ (af aaN aA)
theorem aqS:ax (abU (M.zH)):=aX (cx:=abV) true aqR Tryz.func159 hq ⟨yd,fun x=>(x.1.1,x.2.1)⟩ (fun x=>by kernel_rfl)
def rf(m:M.au->Option ((List UInt8)×M.au)):aG K:={f:=111,sh:=tB,R:=(List UInt8)×M.au,run:=fun x=>m x.2.1,dflt:=default,out:=fun r=>(Sh.enc D (.str) r.1,aW.encs D [.el U.parser] (r.2,()))}
def abW:Cx K:=bp [(159,.bg)] [abU M.zH] []
theorem aqT:aP abW:=aV ar _ (af aqS aA)
theorem tG:ax (rf (M.gA)):=aX (cx:=abW) true aqT Tryz.func111 hq ⟨yd,fun x=>(x.1.1,x.2.1)⟩ (fun x=>by kernel_rfl)
def FR(m:Option ((List (List UInt8)))):aG K:={f:=153,sh:=⟨[],[]⟩,R:=(List (List UInt8)),run:=fun x=>m,dflt:=default,out:=fun r=>(Sh.enc D (.an U.str) r,aW.encs D [] ())}
theorem MU:ax (FR (M.fL)):=aX (cx:=gG) true gX Tryz.func153 hq ⟨yp,fun x=>x.1.1⟩ (fun x=>by kernel_rfl)
def NC(m:(List UInt8)->Option Bool):aG K:=cB 233 eY (fun x=>m x.1.1)
def abX:Cx K:=bp [(153,.jH),(256,.plain)] [FR M.fL,aa5 M.Ey] []
theorem aqU:aP abX:=aV ar _ (af MU (af apZ aA))
theorem abY:ax (NC (M.qp)):=aX (cx:=abX) true aqU Tryz.func233 hq ⟨zs0,fun x=>x.1.1⟩ (fun x=>by kernel_rfl)
def yv(m:(List UInt8)->M.au->Option (Bool×M.au)):aG K:={f:=161,sh:=Hm,R:=Bool×M.au,run:=fun x=>m x.1.2.1 x.2.1,dflt:=default,out:=fun r=>(Sh.enc D (.bool) r.1,aW.encs D [.el U.parser] (r.2,()))}
theorem CH:ax (yv (M.l5)):=aX (cx:=gG) true gX Tryz.func161 hq ⟨⟨[.bool],[.el U.parser]⟩,fun x=>(x.1.1,x.2.1)⟩ (fun x=>by kernel_rfl)
def mg(m:(List UInt8)->M.au->Option (Bool×M.au)):aG K:={f:=113,sh:=Hm,R:=Bool×M.au,run:=fun x=>m x.1.2.1 x.2.1,dflt:=default,out:=fun r=>(Sh.enc D (.bool) r.1,aW.encs D [.el U.parser] (r.2,()))}
def abZ:Cx K:=bp [(161,.bg)] [yv M.l5] []
theorem aqV:aP abZ:=aV ar _ (af CH aA)
theorem m6:ax (mg (M.eB)):=aX (cx:=abZ) true aqV Tryz.func113 hq ⟨⟨[.bool],[.el U.parser]⟩,fun x=>(x.1.1,x.2.1)⟩ (fun x=>by kernel_rfl)
def pH(m:(List UInt8)->M.au->Option (M.au)):aG K:={f:=110,sh:=Hm,R:=M.au,run:=fun x=>m x.1.2.1 x.2.1,dflt:=default,out:=fun r=>(Sh.enc D (.bC []) (),aW.encs D [.el U.parser] (r,()))}
def ab1:Cx K:=bp [(113,.bg)] [mg M.eB] []
theorem aqW:aP ab1:=aV ar _ (af m6 aA)
theorem rh:ax (pH (M.dj)):=aX (cx:=ab1) true aqW Tryz.func110 hq ⟨⟨[.bC []],[.el U.parser]⟩,fun x=>x.2.1⟩ (fun x=>by kernel_rfl)
def gY(m:Int->M.au->Option (M.aa×M.au)):aG K:={f:=201,sh:=⟨[.ptr 0 0,iq0],[.el U.parser]⟩,R:=M.aa×M.au,run:=fun x=>m x.1.2.1 x.2.1,dflt:=default,out:=fun r=>(Sh.enc D (.el U.Term) r.1,aW.encs D [.el U.parser] (r.2,()))}
def CJ(m:Int->(List UInt8)->Int->(List (List UInt8))->(List M.aa)->(List M.ai)->Int->Bool->Option (Int×(List UInt8)×Int×(List M.ai)×Int×Bool×(List (List UInt8))×(List M.aa))):aG K:={f:=235,sh:=⟨[.ptr 0 0,.ptr 1 0,.ptr 2 0],[.box [iq0,.str,.own 3,.own 4],.box [.ptr 5 0],.box [iq0],.arr U.str,.arr U.Term,.box [.an U.Token,iq0,.bool]]⟩,R:=Int×(List UInt8)×Int×(List M.ai)×Int×Bool×(List (List UInt8))×(List M.aa),run:=fun x=>m x.2.1.1 x.2.1.2.1 x.2.2.2.1.1 x.2.2.2.2.1 x.2.2.2.2.2.1 x.2.2.2.2.2.2.1.1 x.2.2.2.2.2.2.1.2.1 x.2.2.2.2.2.2.1.2.2.1,dflt:=default,out:=fun r=>(Sh.enc D (.bC []) (),aW.encs D [.box [iq0,.str,.own 6,.own 7],.box [.ptr 5 0],.box [iq0],.dead,.dead,.box [.an U.Token,iq0,.bool],.arr U.str,.arr U.Term] ((r.1,(r.2.1,((),((),())))),(((),()),((r.2.2.1,()),((),((),((r.2.2.2.1,(r.2.2.2.2.1,(r.2.2.2.2.2.1,()))),(r.2.2.2.2.2.2.1,(r.2.2.2.2.2.2.2,())))))))))}
def ab2(bn:Int->M.au->Option (M.aa×M.au)):Cx K:={eK with mode:=d6 .plain [(201,.bg)],mv:=true,call:=callOf D [gY bn],loop:=dR []}
theorem aqX(bn:Int->M.au->Option (M.aa×M.au))(ef:ax (gY bn)):aP (ab2 bn):=aV ar _ (af ef aA)
theorem HZ(bn:Int->M.au->Option (M.aa×M.au))(ef:ax (gY bn)):ax (CJ (M.lu bn)):=fP (cx:=ab2 bn) (fz:=true) ar (aqX bn ef) bm ⟨Tryz.func235,by kernel_rfl⟩ hq ⟨⟨[.bC []],[.box [iq0,.str,.own 6,.own 7],.box [.ptr 5 0],.box [iq0],.dead,.dead,.box [.an U.Token,iq0,.bool],.arr U.str,.arr U.Term]⟩,fun x=>(x.2.1.1,x.2.1.2.1,x.2.2.2.1.1,x.2.2.2.2.2.2.1.1,x.2.2.2.2.2.2.1.2.1,x.2.2.2.2.2.2.1.2.2.1,x.2.2.2.2.2.2.2.1,x.2.2.2.2.2.2.2.2.1)⟩ (fun x=>rfl) (fun x=>by kernel_rfl)
def aqY(y:((List M.ai)×Int×Bool×Int×(List UInt8)×Int×(List (List UInt8))×(List M.aa))⊕((List M.ai)×Int×Bool×Int×(List UInt8)×Int×(List (List UInt8))×(List M.aa))){R:Type}(k:KT R):R:=match y with|.inl a0=>kk k Ex.ret Hq ((),((a0.1,(a0.2.1,(a0.2.2.1,()))),((a0.2.2.2.1,(a0.2.2.2.2.1,((),((),())))),(((),()),((a0.2.2.2.2.2.1,()),((),((),(a0.2.2.2.2.2.2.1,(a0.2.2.2.2.2.2.2,())))))))))|.inr a1=>kk k (Ex.exit 0) Hq ((),((a1.1,(a1.2.1,(a1.2.2.1,()))),((a1.2.2.2.1,(a1.2.2.2.2.1,((),((),())))),(((),()),((a1.2.2.2.2.2.1,()),((),((),(a1.2.2.2.2.2.2.1,(a1.2.2.2.2.2.2.2,())))))))))
def aqZ:List (cz K (((List M.ai)×Int×Bool×Int×(List UInt8)×Int×(List (List UInt8))×(List M.aa))⊕((List M.ai)×Int×Bool×Int×(List UInt8)×Int×(List (List UInt8))×(List M.aa)))):=[⟨Ex.ret,Hq,fun x=>.inl (x.2.1.1,x.2.1.2.1,x.2.1.2.2.1,x.2.2.1.1,x.2.2.1.2.1,x.2.2.2.2.1.1,x.2.2.2.2.2.2.2.1,x.2.2.2.2.2.2.2.2.1)⟩,⟨(Ex.exit 0),Hq,fun x=>.inr ((x.2.1.1,x.2.1.2.1,x.2.1.2.2.1,x.2.2.1.1,x.2.2.1.2.1,x.2.2.2.2.1.1,x.2.2.2.2.2.2.2.1,x.2.2.2.2.2.2.2.2.1))⟩]
def ab3(bn:Int->M.au->Option (M.aa×M.au)):bE K:=bJ D false 30 6 [0,1,2,6] [] aad (fun x=>M.qt bn x.1.2.1 ad x.1.2.2.2.1 x.2.1 x.2.2.1.1 x.2.2.1.2.1 x.2.2.2.2.1.1 x.2.2.2.2.2.2.2.1 x.2.2.2.2.2.2.2.2.1) aqY
def ab4(m:Int->M.au->Int->(List UInt8)->Int->(List (List UInt8))->(List M.aa)->Option (M.au×Int×(List UInt8)×Int×(List (List UInt8))×(List M.aa))):aG K:={f:=202,sh:=⟨[.ptr 0 0,iq0,.fn 235 [.ptr 1 0,.ptr 2 0,.ptr 3 0]],[.el U.parser,.box [iq0,.str,.own 4,.own 5],.box [.ptr 0 0],.box [iq0],.arr U.str,.arr U.Term]⟩,R:=M.au×Int×(List UInt8)×Int×(List (List UInt8))×(List M.aa),run:=fun x=>m x.1.2.1 x.2.1 x.2.2.1.1 x.2.2.1.2.1 x.2.2.2.2.1.1 x.2.2.2.2.2.1 x.2.2.2.2.2.2.1,dflt:=default,out:=fun r=>(Sh.enc D (.bC []) (),aW.encs D [.el U.parser,.box [iq0,.str,.own 6,.own 7],.box [.ptr 0 0],.box [iq0],.dead,.dead,.arr U.str,.arr U.Term] (r.1,((r.2.1,(r.2.2.1,((),((),())))),(((),()),((r.2.2.2.1,()),((),((),(r.2.2.2.2.1,(r.2.2.2.2.2,())))))))))}
def H3(bn:Int->M.au->Option (M.aa×M.au)):Cx K:={eK with mode:=d6 .plain [(113,.bg),(235,.bg)],mv:=true,call:=callOf D [CJ (M.lu bn),mg M.eB],loop:=dR [(1,ab3 bn)]}
theorem ab5(bn:Int->M.au->Option (M.aa×M.au))(ef:ax (gY bn)):aP (H3 bn):=aV ar _ (af (HZ bn ef) (af m6 aA))
theorem aq0(bn:Int->M.au->Option (M.aa×M.au))(ef:ax (gY bn)):bF (H3 bn) (bq (bI Tryz.f202) 0) (ab3 bn):=lk (cx:=H3 bn) (sh:=aad) (run:=fun n x=>M.qt bn x.1.2.1 n x.1.2.2.2.1 x.2.1 x.2.2.1.1 x.2.2.1.2.1 x.2.2.2.2.1.1 x.2.2.2.2.2.2.2.1 x.2.2.2.2.2.2.2.2.1) (bG:=aqZ) (ab5 bn ef) (fun m x=>by kernel_rfl) (af ⟨cO,fun _ _ _=>rfl⟩ (af ⟨bL,fun _ _ _=>rfl⟩ aA))
theorem aq1(bn:Int->M.au->Option (M.aa×M.au))(ef:ax (gY bn)):ax (ab4 (M.w9 bn)):=fP (cx:=H3 bn) (fz:=true) ar (ab5 bn ef) bm ⟨Tryz.func202,by kernel_rfl⟩ (hl1 (aq0 bn ef)) ⟨MX,fun x=>(x.2.1,x.2.2.1.1,x.2.2.1.2.1,x.2.2.2.2.1.1,x.2.2.2.2.2.2.2.1,x.2.2.2.2.2.2.2.2.1)⟩ (fun x=>rfl) (fun x=>by kernel_rfl)
def ab6(m:(List UInt8)->Option Bool):aG K:=cB 232 eY (fun x=>m x.1.1)
def ab7:Cx K:=bp [(160,.plain),(233,.plain)] [Nq M.vj,NC M.qp] []
theorem aq2:aP ab7:=aV ar _ (af aaN (af abY aA))
theorem aq3:ax (ab6 (M.zL)):=aX (cx:=ab7) true aq2 Tryz.func232 hq ⟨zs0,fun x=>x.1.1⟩ (fun x=>by kernel_rfl)
def ab8(m:Int->M.au->Option ((List UInt8)×M.au)):aG K:={f:=159,sh:=⟨[.ptr 0 0,iq0,.fn 232 []],[.el U.parser]⟩,R:=(List UInt8)×M.au,run:=fun x=>m x.1.2.1 x.2.1,dflt:=default,out:=fun r=>(Sh.enc D (.str) r.1,aW.encs D [.el U.parser] (r.2,()))}
def ab9:Cx K:=bp [(232,.plain)] [ab6 M.zL] []
theorem aq4:aP ab9:=aV ar _ (af aq3 aA)
theorem aq5:ax (ab8 (M.zM)):=aX (cx:=ab9) true aq4 Tryz.func159 hq ⟨yd,fun x=>(x.1.1,x.2.1)⟩ (fun x=>by kernel_rfl)
def H4(m:M.au->Option ((List UInt8)×M.au)):aG K:={f:=200,sh:=tB,R:=(List UInt8)×M.au,run:=fun x=>m x.2.1,dflt:=default,out:=fun r=>(Sh.enc D (.str) r.1,aW.encs D [.el U.parser] (r.2,()))}
def aca:Cx K:=bp [(159,.bg)] [ab8 M.zM] []
theorem aq6:aP aca:=aV ar _ (af aq5 aA)
theorem ND:ax (H4 (M.mF)):=aX (cx:=aca) true aq6 Tryz.func200 hq ⟨yd,fun x=>(x.1.1,x.2.1)⟩ (fun x=>by kernel_rfl)
def aq7(y:Int×(List UInt8)×(List (List UInt8))×(List M.aa)){R:Type}(k:KT R):R:=match y with|a0=>kk k (Ex.exit 0) aae ((),((a0.1,(a0.2.1,((),((),())))),((),((),(a0.2.2.1,(a0.2.2.2,()))))))
def aq8:List (cz K (Int×(List UInt8)×(List (List UInt8))×(List M.aa))):=[⟨(Ex.exit 0),aae,fun x=>(x.2.1.1,x.2.1.2.1,x.2.2.2.2.1,x.2.2.2.2.2.1)⟩]
def acb:bE K:=bJ D false 46 3 [1] [] aaf (fun x=>M.lx x.2.1.1 x.2.1.2.1 x.2.2.2.2.1 ad x.2.2.2.2.2.1) aq7
def acd(m:M.au->Int->(List UInt8)->Int->(List (List UInt8))->(List M.aa)->Option (M.au×Int×(List UInt8)×Int×(List (List UInt8))×(List M.aa))):aG K:={f:=236,sh:=aag,R:=M.au×Int×(List UInt8)×Int×(List (List UInt8))×(List M.aa),run:=fun x=>m x.2.1 x.2.2.1.1 x.2.2.1.2.1 x.2.2.2.2.1.1 x.2.2.2.2.2.1 x.2.2.2.2.2.2.1,dflt:=default,out:=fun r=>(Sh.enc D (.bC []) (),aW.encs D [.el U.parser,.box [iq0,.str,.own 6,.own 7],.box [.ptr 0 0],.box [iq0],.dead,.dead,.arr U.str,.arr U.Term] (r.1,((r.2.1,(r.2.2.1,((),((),())))),(((),()),((r.2.2.2.1,()),((),((),(r.2.2.2.2.1,(r.2.2.2.2.2,())))))))))}
def H5(bn:Int->M.au->Option (M.aa×M.au)):Cx K:={eK with mode:=d6 .plain [(113,.bg),(110,.bg),(235,.bg)],mv:=true,call:=callOf D [mg M.eB,CJ (M.lu bn),pH M.dj],loop:=dR [(7,acb)]}
theorem ace(bn:Int->M.au->Option (M.aa×M.au))(ef:ax (gY bn)):aP (H5 bn):=aV ar _ (af m6 (af (HZ bn ef) (af rh aA)))
theorem aq9(bn:Int->M.au->Option (M.aa×M.au))(ef:ax (gY bn)):bF (H5 bn) (bq (bI Tryz.f236) 0) acb:=lk (cx:=H5 bn) (sh:=aaf) (run:=fun n x=>M.lx x.2.1.1 x.2.1.2.1 x.2.2.2.2.1 n x.2.2.2.2.2.1) (bG:=aq8) (ace bn ef) (fun m x=>by kernel_rfl) (af ⟨bL,fun _ _ _=>rfl⟩ aA)
theorem ara(bn:Int->M.au->Option (M.aa×M.au))(ef:ax (gY bn)):ax (acd (M.zP bn)):=fP (cx:=H5 bn) (fz:=true) ar (ace bn ef) bm ⟨Tryz.func236,by kernel_rfl⟩ (hl1 (aq9 bn ef)) ⟨MX,fun x=>(x.2.1,x.2.2.1.1,x.2.2.1.2.1,x.2.2.2.2.1.1,x.2.2.2.2.2.2.2.1,x.2.2.2.2.2.2.2.2.1)⟩ (fun x=>rfl) (fun x=>by kernel_rfl)
def acf(m:M.au->Int->(List UInt8)->Int->(List (List UInt8))->(List M.aa)->Option (M.au×Int×(List UInt8)×Int×(List (List UInt8))×(List M.aa))):aG K:={f:=238,sh:=aag,R:=M.au×Int×(List UInt8)×Int×(List (List UInt8))×(List M.aa),run:=fun x=>m x.2.1 x.2.2.1.1 x.2.2.1.2.1 x.2.2.2.2.1.1 x.2.2.2.2.2.1 x.2.2.2.2.2.2.1,dflt:=default,out:=fun r=>(Sh.enc D (.bC []) (),aW.encs D [.el U.parser,.box [iq0,.str,.own 6,.own 7],.box [.ptr 0 0],.box [iq0],.dead,.dead,.arr U.str,.arr U.Term] (r.1,((r.2.1,(r.2.2.1,((),((),())))),(((),()),((r.2.2.2.1,()),((),((),(r.2.2.2.2.1,(r.2.2.2.2.2,())))))))))}
def acg(bn:Int->M.au->Option (M.aa×M.au)):Cx K:={eK with mode:=d6 .plain [(111,.bg),(110,.bg),(113,.bg),(235,.bg)],mv:=true,call:=callOf D [rf M.gA,pH M.dj,CJ (M.lu bn),mg M.eB],loop:=dR []}
theorem arb(bn:Int->M.au->Option (M.aa×M.au))(ef:ax (gY bn)):aP (acg bn):=aV ar _ (af tG (af rh (af (HZ bn ef) (af m6 aA))))
theorem arc(bn:Int->M.au->Option (M.aa×M.au))(ef:ax (gY bn)):ax (acf (M.xa bn)):=fP (cx:=acg bn) (fz:=true) ar (arb bn ef) bm ⟨Tryz.func238,by kernel_rfl⟩ hq ⟨MX,fun x=>(x.2.1,x.2.2.1.1,x.2.2.1.2.1,x.2.2.2.2.1.1,x.2.2.2.2.2.2.2.1,x.2.2.2.2.2.2.2.2.1)⟩ (fun x=>rfl) (fun x=>by kernel_rfl)
def ach(m:Int->(List UInt8)->(List M.ai)->Int->Bool->(List (List UInt8))->(List M.aa)->Int->Option (Int×(List UInt8)×(List M.ai)×Int×Bool×Int×(List (List UInt8))×(List M.aa))):aG K:={f:=237,sh:=⟨[.ptr 0 0,.ptr 1 0,.ptr 2 0],[.box [.ptr 3 0],.box [iq0,.str,.own 4,.own 5],.box [.fn 235 [.ptr 1 0,.ptr 0 0,.ptr 6 0]],.box [.an U.Token,iq0,.bool],.arr U.str,.arr U.Term,.box [iq0]]⟩,R:=Int×(List UInt8)×(List M.ai)×Int×Bool×Int×(List (List UInt8))×(List M.aa),run:=fun x=>m x.2.2.1.1 x.2.2.1.2.1 x.2.2.2.2.1.1 x.2.2.2.2.1.2.1 x.2.2.2.2.1.2.2.1 x.2.2.2.2.2.1 x.2.2.2.2.2.2.1 x.2.2.2.2.2.2.2.1.1,dflt:=default,out:=fun r=>(Sh.enc D (.bC []) (),aW.encs D [.box [.ptr 3 0],.box [iq0,.str,.own 7,.own 8],.box [.fn 235 [.ptr 1 0,.ptr 0 0,.ptr 6 0]],.box [.an U.Token,iq0,.bool],.dead,.dead,.box [iq0],.arr U.str,.arr U.Term] (((),()),((r.1,(r.2.1,((),((),())))),((((),((),((),()))),()),((r.2.2.1,(r.2.2.2.1,(r.2.2.2.2.1,()))),((),((),((r.2.2.2.2.2.1,()),(r.2.2.2.2.2.2.1,(r.2.2.2.2.2.2.2,()))))))))))}
def aci(bn:Int->M.au->Option (M.aa×M.au)):Cx K:={eK with mode:=d6 .plain [(238,.bg)],mv:=true,call:=callOf D [acf (M.xa bn)],loop:=dR []}
theorem ard(bn:Int->M.au->Option (M.aa×M.au))(ef:ax (gY bn)):aP (aci bn):=aV ar _ (af (arc bn ef) aA)
theorem arf(bn:Int->M.au->Option (M.aa×M.au))(ef:ax (gY bn)):ax (ach (M.EB bn)):=fP (cx:=aci bn) (fz:=true) ar (ard bn ef) bm ⟨Tryz.func237,by kernel_rfl⟩ hq ⟨⟨[.bC []],[.box [.ptr 3 0],.box [iq0,.str,.own 7,.own 8],.box [.fn 235 [.ptr 1 0,.ptr 0 0,.ptr 6 0]],.box [.an U.Token,iq0,.bool],.dead,.dead,.box [iq0],.arr U.str,.arr U.Term]⟩,fun x=>(x.2.2.1.1,x.2.2.1.2.1,x.2.2.2.2.1.1,x.2.2.2.2.1.2.1,x.2.2.2.2.1.2.2.1,x.2.2.2.2.2.2.2.1.1,x.2.2.2.2.2.2.2.2.1,x.2.2.2.2.2.2.2.2.2.1)⟩ (fun x=>rfl) (fun x=>by kernel_rfl)
def arh(y:((List M.ai)×Int×Bool×Int×(List UInt8)×Int×(List (List UInt8))×(List M.aa))⊕((List M.ai)×Int×Bool×Int×(List UInt8)×Int×(List (List UInt8))×(List M.aa))){R:Type}(k:KT R):R:=match y with|.inl a0=>kk k Ex.ret Hr ((),((a0.1,(a0.2.1,(a0.2.2.1,()))),(((),()),((a0.2.2.2.1,(a0.2.2.2.2.1,((),((),())))),((((),((),((),()))),()),((),((),((a0.2.2.2.2.2.1,()),(a0.2.2.2.2.2.2.1,(a0.2.2.2.2.2.2.2,()))))))))))|.inr a1=>kk k (Ex.exit 0) Hr ((),((a1.1,(a1.2.1,(a1.2.2.1,()))),(((),()),((a1.2.2.2.1,(a1.2.2.2.2.1,((),((),())))),((((),((),((),()))),()),((),((),((a1.2.2.2.2.2.1,()),(a1.2.2.2.2.2.2.1,(a1.2.2.2.2.2.2.2,()))))))))))
def ari:List (cz K (((List M.ai)×Int×Bool×Int×(List UInt8)×Int×(List (List UInt8))×(List M.aa))⊕((List M.ai)×Int×Bool×Int×(List UInt8)×Int×(List (List UInt8))×(List M.aa)))):=[⟨Ex.ret,Hr,fun x=>.inl (x.2.1.1,x.2.1.2.1,x.2.1.2.2.1,x.2.2.2.1.1,x.2.2.2.1.2.1,x.2.2.2.2.2.2.2.1.1,x.2.2.2.2.2.2.2.2.1,x.2.2.2.2.2.2.2.2.2.1)⟩,⟨(Ex.exit 0),Hr,fun x=>.inr ((x.2.1.1,x.2.1.2.1,x.2.1.2.2.1,x.2.2.2.1.1,x.2.2.2.1.2.1,x.2.2.2.2.2.2.2.1.1,x.2.2.2.2.2.2.2.2.1,x.2.2.2.2.2.2.2.2.2.1))⟩]
def acj(bn:Int->M.au->Option (M.aa×M.au)):bE K:=bJ D false 30 7 [0,1,2,6] [] aah (fun x=>M.qu bn x.1.2.1 ad x.1.2.2.2.1 x.2.1 x.2.2.2.1.1 x.2.2.2.1.2.1 x.2.2.2.2.2.2.2.1.1 x.2.2.2.2.2.2.2.2.1 x.2.2.2.2.2.2.2.2.2.1) arh
def ack(m:Int->M.au->Int->(List UInt8)->(List (List UInt8))->(List M.aa)->Int->Option (M.au×Int×(List UInt8)×Int×(List (List UInt8))×(List M.aa))):aG K:={f:=202,sh:=⟨[.ptr 0 0,iq0,.fn 237 [.ptr 1 0,.ptr 2 0,.ptr 3 0]],[.el U.parser,.box [.ptr 0 0],.box [iq0,.str,.own 4,.own 5],.box [.fn 235 [.ptr 2 0,.ptr 1 0,.ptr 6 0]],.arr U.str,.arr U.Term,.box [iq0]]⟩,R:=M.au×Int×(List UInt8)×Int×(List (List UInt8))×(List M.aa),run:=fun x=>m x.1.2.1 x.2.1 x.2.2.2.1.1 x.2.2.2.1.2.1 x.2.2.2.2.2.1 x.2.2.2.2.2.2.1 x.2.2.2.2.2.2.2.1.1,dflt:=default,out:=fun r=>(Sh.enc D (.bC []) (),aW.encs D [.el U.parser,.box [.ptr 0 0],.box [iq0,.str,.own 7,.own 8],.box [.fn 235 [.ptr 2 0,.ptr 1 0,.ptr 6 0]],.dead,.dead,.box [iq0],.arr U.str,.arr U.Term] (r.1,(((),()),((r.2.1,(r.2.2.1,((),((),())))),((((),((),((),()))),()),((),((),((r.2.2.2.1,()),(r.2.2.2.2.1,(r.2.2.2.2.2,()))))))))))}
def H6(bn:Int->M.au->Option (M.aa×M.au)):Cx K:={eK with mode:=d6 .plain [(113,.bg),(237,.bg)],mv:=true,call:=callOf D [ach (M.EB bn),mg M.eB],loop:=dR [(1,acj bn)]}
theorem acm(bn:Int->M.au->Option (M.aa×M.au))(ef:ax (gY bn)):aP (H6 bn):=aV ar _ (af (arf bn ef) (af m6 aA))
theorem arj(bn:Int->M.au->Option (M.aa×M.au))(ef:ax (gY bn)):bF (H6 bn) (bq (bI Tryz.f202) 0) (acj bn):=lk (cx:=H6 bn) (sh:=aah) (run:=fun n x=>M.qu bn x.1.2.1 n x.1.2.2.2.1 x.2.1 x.2.2.2.1.1 x.2.2.2.1.2.1 x.2.2.2.2.2.2.2.1.1 x.2.2.2.2.2.2.2.2.1 x.2.2.2.2.2.2.2.2.2.1) (bG:=ari) (acm bn ef) (fun m x=>by kernel_rfl) (af ⟨cO,fun _ _ _=>rfl⟩ (af ⟨bL,fun _ _ _=>rfl⟩ aA))
theorem ark(bn:Int->M.au->Option (M.aa×M.au))(ef:ax (gY bn)):ax (ack (M.xb bn)):=fP (cx:=H6 bn) (fz:=true) ar (acm bn ef) bm ⟨Tryz.func202,by kernel_rfl⟩ (hl1 (arj bn ef)) ⟨⟨[.bC []],[.el U.parser,.box [.ptr 0 0],.box [iq0,.str,.own 7,.own 8],.box [.fn 235 [.ptr 2 0,.ptr 1 0,.ptr 6 0]],.dead,.dead,.box [iq0],.arr U.str,.arr U.Term]⟩,fun x=>(x.2.1,x.2.2.2.1.1,x.2.2.2.1.2.1,x.2.2.2.2.2.2.2.1.1,x.2.2.2.2.2.2.2.2.1,x.2.2.2.2.2.2.2.2.2.1)⟩ (fun x=>rfl) (fun x=>by kernel_rfl)
def acn(bn:Int->M.au->Option (M.aa×M.au)):Cx K:=bp [(111,.bg),(233,.plain),(153,.jH),(234,.plain),(110,.bg),(202,.bg),(200,.bg),(236,.bg),(235,.bg)] [rf M.gA,NC M.qp,FR M.fL,Ns M.uJ,pH M.dj,CJ (M.lu bn),ab4 (M.w9 bn),H4 M.mF,acd (M.zP bn),ack (M.xb bn)] []
theorem arl(bn:Int->M.au->Option (M.aa×M.au))(ef:ax (gY bn)):aP (acn bn):=aV ar _ (af tG (af abY (af MU (af aa4 (af rh (af (HZ bn ef) (af (aq1 bn ef) (af ND (af (ara bn ef) (af (ark bn ef) aA))))))))))
theorem arn(bn:Int->M.au->Option (M.aa×M.au))(ef:ax (gY bn)):ax (gY (M.sg bn)):=fP (cx:=acn bn) (fz:=true) ar (arl bn ef) bm ⟨Tryz.func201,by kernel_rfl⟩ hq ⟨⟨[.el U.Term],[.el U.parser]⟩,fun x=>(x.1.1,x.2.1)⟩ (fun x=>rfl) (fun x=>by kernel_rfl)
theorem aco:∀n,ax (gY (M.uM n))|0=>nw fun _=>rfl|n+1=>arn (M.uM n) (aco n)
theorem NF:ax (gY (M.qx)):=aco ad
def acp(m:Int->M.au->Option ((List UInt8)×M.au)):aG K:={f:=159,sh:=⟨[.ptr 0 0,iq0,.fn 34 []],[.el U.parser]⟩,R:=(List UInt8)×M.au,run:=fun x=>m x.1.2.1 x.2.1,dflt:=default,out:=fun r=>(Sh.enc D (.str) r.1,aW.encs D [.el U.parser] (r.2,()))}
def acr:Cx K:=bp [(34,.plain)] [aa0 M.A9] []
theorem aro:aP acr:=aV ar _ (af apW aA)
theorem arp:ax (acp (M.zN)):=aX (cx:=acr) true aro Tryz.func159 hq ⟨yd,fun x=>(x.1.1,x.2.1)⟩ (fun x=>by kernel_rfl)
def NG(m:M.au->Option ((List UInt8)×M.au)):aG K:={f:=112,sh:=tB,R:=(List UInt8)×M.au,run:=fun x=>m x.2.1,dflt:=default,out:=fun r=>(Sh.enc D (.str) r.1,aW.encs D [.el U.parser] (r.2,()))}
def acs:Cx K:=bp [(159,.bg)] [acp M.zN] []
theorem arq:aP acs:=aV ar _ (af arp aA)
theorem acu:ax (NG (M.se)):=aX (cx:=acs) true arq Tryz.func112 hq ⟨yd,fun x=>(x.1.1,x.2.1)⟩ (fun x=>by kernel_rfl)
def acv(m:Int->(List UInt8)->Int->(List UInt8)->Bool->(List UInt8)->(List UInt8)->(List UInt8)->(List M.ai)->Int->Bool->(List (List UInt8))->(List M.aa)->(List M.az)->(List M.aM)->Option (Int×(List UInt8)×Int×(List UInt8)×Bool×(List UInt8)×(List UInt8)×(List UInt8)×(List M.ai)×Int×Bool×(List (List UInt8))×(List M.aa)×(List M.az)×(List M.aM))):aG K:={f:=231,sh:=aai,R:=Int×(List UInt8)×Int×(List UInt8)×Bool×(List UInt8)×(List UInt8)×(List UInt8)×(List M.ai)×Int×Bool×(List (List UInt8))×(List M.aa)×(List M.az)×(List M.aM),run:=fun x=>m x.2.2.1.1 x.2.2.1.2.1 x.2.2.1.2.2.1 x.2.2.1.2.2.2.1 x.2.2.1.2.2.2.2.2.2.2.1 x.2.2.1.2.2.2.2.2.2.2.2.1 x.2.2.1.2.2.2.2.2.2.2.2.2.1 x.2.2.1.2.2.2.2.2.2.2.2.2.2.1 x.2.2.2.1.1 x.2.2.2.1.2.1 x.2.2.2.1.2.2.1 x.2.2.2.2.1 x.2.2.2.2.2.1 x.2.2.2.2.2.2.1 x.2.2.2.2.2.2.2.1,dflt:=default,out:=fun r=>(Sh.enc D (.bC []) (),aW.encs D [.box [.ptr 2 0],.box [iq0,.str,iq0,.str,.own 7,.own 8,.own 9,.bool,.str,.str,.str,.own 10],.box [.an U.Token,iq0,.bool],.dead,.dead,.dead,.dead,.arr U.str,.arr U.Term,.arr U.cY,.arr U.dc] (((),()),((r.1,(r.2.1,(r.2.2.1,(r.2.2.2.1,((),((),((),(r.2.2.2.2.1,(r.2.2.2.2.2.1,(r.2.2.2.2.2.2.1,(r.2.2.2.2.2.2.2.1,((),())))))))))))),((r.2.2.2.2.2.2.2.2.1,(r.2.2.2.2.2.2.2.2.2.1,(r.2.2.2.2.2.2.2.2.2.2.1,()))),((),((),((),((),(r.2.2.2.2.2.2.2.2.2.2.2.1,(r.2.2.2.2.2.2.2.2.2.2.2.2.1,(r.2.2.2.2.2.2.2.2.2.2.2.2.2.1,(r.2.2.2.2.2.2.2.2.2.2.2.2.2.2,()))))))))))))}
def acw:Cx K:={eK with mode:=d6 .plain [(111,.bg),(110,.bg),(201,.bg)],mv:=true,call:=callOf D [rf M.gA,pH M.dj,gY M.qx],loop:=dR []}
theorem ars:aP acw:=aV ar _ (af tG (af rh (af NF aA)))
theorem art:ax (acv (M.zS)):=aX (cx:=acw) true ars Tryz.func231 hq ⟨aaj,fun x=>(x.2.2.1.1,x.2.2.1.2.1,x.2.2.1.2.2.1,x.2.2.1.2.2.2.1,x.2.2.1.2.2.2.2.2.2.2.1,x.2.2.1.2.2.2.2.2.2.2.2.1,x.2.2.1.2.2.2.2.2.2.2.2.2.1,x.2.2.1.2.2.2.2.2.2.2.2.2.2.1,x.2.2.2.1.1,x.2.2.2.1.2.1,x.2.2.2.1.2.2.1,x.2.2.2.2.2.2.2.2.1,x.2.2.2.2.2.2.2.2.2.1,x.2.2.2.2.2.2.2.2.2.2.1,x.2.2.2.2.2.2.2.2.2.2.2.1)⟩ (fun x=>by kernel_rfl)
def acx(y:((List M.ai)×Int×Bool×Int×(List UInt8)×Int×(List UInt8)×Bool×(List UInt8)×(List UInt8)×(List UInt8)×(List (List UInt8))×(List M.aa)×(List M.az)×(List M.aM))⊕((List M.ai)×Int×Bool×Int×(List UInt8)×Int×(List UInt8)×Bool×(List UInt8)×(List UInt8)×(List UInt8)×(List (List UInt8))×(List M.aa)×(List M.az)×(List M.aM))){R:Type}(k:KT R):R:=match y with|.inl a0=>kk k Ex.ret Hg ((),((a0.1,(a0.2.1,(a0.2.2.1,()))),(((),()),((a0.2.2.2.1,(a0.2.2.2.2.1,(a0.2.2.2.2.2.1,(a0.2.2.2.2.2.2.1,((),((),((),(a0.2.2.2.2.2.2.2.1,(a0.2.2.2.2.2.2.2.2.1,(a0.2.2.2.2.2.2.2.2.2.1,(a0.2.2.2.2.2.2.2.2.2.2.1,((),())))))))))))),((),((),((),((),(a0.2.2.2.2.2.2.2.2.2.2.2.1,(a0.2.2.2.2.2.2.2.2.2.2.2.2.1,(a0.2.2.2.2.2.2.2.2.2.2.2.2.2.1,(a0.2.2.2.2.2.2.2.2.2.2.2.2.2.2,()))))))))))))|.inr a1=>kk k (Ex.exit 0) Hg ((),((a1.1,(a1.2.1,(a1.2.2.1,()))),(((),()),((a1.2.2.2.1,(a1.2.2.2.2.1,(a1.2.2.2.2.2.1,(a1.2.2.2.2.2.2.1,((),((),((),(a1.2.2.2.2.2.2.2.1,(a1.2.2.2.2.2.2.2.2.1,(a1.2.2.2.2.2.2.2.2.2.1,(a1.2.2.2.2.2.2.2.2.2.2.1,((),())))))))))))),((),((),((),((),(a1.2.2.2.2.2.2.2.2.2.2.2.1,(a1.2.2.2.2.2.2.2.2.2.2.2.2.1,(a1.2.2.2.2.2.2.2.2.2.2.2.2.2.1,(a1.2.2.2.2.2.2.2.2.2.2.2.2.2.2,()))))))))))))
def acy:List (cz K (((List M.ai)×Int×Bool×Int×(List UInt8)×Int×(List UInt8)×Bool×(List UInt8)×(List UInt8)×(List UInt8)×(List (List UInt8))×(List M.aa)×(List M.az)×(List M.aM))⊕((List M.ai)×Int×Bool×Int×(List UInt8)×Int×(List UInt8)×Bool×(List UInt8)×(List UInt8)×(List UInt8)×(List (List UInt8))×(List M.aa)×(List M.az)×(List M.aM)))):=[⟨Ex.ret,Hg,fun x=>.inl (x.2.1.1,x.2.1.2.1,x.2.1.2.2.1,x.2.2.2.1.1,x.2.2.2.1.2.1,x.2.2.2.1.2.2.1,x.2.2.2.1.2.2.2.1,x.2.2.2.1.2.2.2.2.2.2.2.1,x.2.2.2.1.2.2.2.2.2.2.2.2.1,x.2.2.2.1.2.2.2.2.2.2.2.2.2.1,x.2.2.2.1.2.2.2.2.2.2.2.2.2.2.1,x.2.2.2.2.2.2.2.2.1,x.2.2.2.2.2.2.2.2.2.1,x.2.2.2.2.2.2.2.2.2.2.1,x.2.2.2.2.2.2.2.2.2.2.2.1)⟩,⟨(Ex.exit 0),Hg,fun x=>.inr ((x.2.1.1,x.2.1.2.1,x.2.1.2.2.1,x.2.2.2.1.1,x.2.2.2.1.2.1,x.2.2.2.1.2.2.1,x.2.2.2.1.2.2.2.1,x.2.2.2.1.2.2.2.2.2.2.2.1,x.2.2.2.1.2.2.2.2.2.2.2.2.1,x.2.2.2.1.2.2.2.2.2.2.2.2.2.1,x.2.2.2.1.2.2.2.2.2.2.2.2.2.2.1,x.2.2.2.2.2.2.2.2.1,x.2.2.2.2.2.2.2.2.2.1,x.2.2.2.2.2.2.2.2.2.2.1,x.2.2.2.2.2.2.2.2.2.2.2.1))⟩]
def acz:bE K:=bJ D false 30 7 [0,1,2,6] [] aak (fun x=>M.sk x.1.2.1 ad x.1.2.2.2.1 x.2.1 x.2.2.2.1.1 x.2.2.2.1.2.1 x.2.2.2.1.2.2.1 x.2.2.2.1.2.2.2.1 x.2.2.2.1.2.2.2.2.2.2.2.1 x.2.2.2.1.2.2.2.2.2.2.2.2.1 x.2.2.2.1.2.2.2.2.2.2.2.2.2.1 x.2.2.2.1.2.2.2.2.2.2.2.2.2.2.1 x.2.2.2.2.2.2.2.2.1 x.2.2.2.2.2.2.2.2.2.1 x.2.2.2.2.2.2.2.2.2.2.1 x.2.2.2.2.2.2.2.2.2.2.2.1) acx
def acA(m:Int->M.au->Int->(List UInt8)->Int->(List UInt8)->Bool->(List UInt8)->(List UInt8)->(List UInt8)->(List (List UInt8))->(List M.aa)->(List M.az)->(List M.aM)->Option (M.au×Int×(List UInt8)×Int×(List UInt8)×Bool×(List UInt8)×(List UInt8)×(List UInt8)×(List (List UInt8))×(List M.aa)×(List M.az)×(List M.aM))):aG K:={f:=202,sh:=⟨[.ptr 0 0,iq0,.fn 231 [.ptr 1 0,.ptr 2 0]],[.el U.parser,.box [.ptr 0 0],.box [iq0,.str,iq0,.str,.own 3,.own 4,.own 5,.bool,.str,.str,.str,.own 6],.arr U.str,.arr U.Term,.arr U.cY,.arr U.dc]⟩,R:=M.au×Int×(List UInt8)×Int×(List UInt8)×Bool×(List UInt8)×(List UInt8)×(List UInt8)×(List (List UInt8))×(List M.aa)×(List M.az)×(List M.aM),run:=fun x=>m x.1.2.1 x.2.1 x.2.2.2.1.1 x.2.2.2.1.2.1 x.2.2.2.1.2.2.1 x.2.2.2.1.2.2.2.1 x.2.2.2.1.2.2.2.2.2.2.2.1 x.2.2.2.1.2.2.2.2.2.2.2.2.1 x.2.2.2.1.2.2.2.2.2.2.2.2.2.1 x.2.2.2.1.2.2.2.2.2.2.2.2.2.2.1 x.2.2.2.2.1 x.2.2.2.2.2.1 x.2.2.2.2.2.2.1 x.2.2.2.2.2.2.2.1,dflt:=default,out:=fun r=>(Sh.enc D (.bC []) (),aW.encs D [.el U.parser,.box [.ptr 0 0],.box [iq0,.str,iq0,.str,.own 7,.own 8,.own 9,.bool,.str,.str,.str,.own 10],.dead,.dead,.dead,.dead,.arr U.str,.arr U.Term,.arr U.cY,.arr U.dc] (r.1,(((),()),((r.2.1,(r.2.2.1,(r.2.2.2.1,(r.2.2.2.2.1,((),((),((),(r.2.2.2.2.2.1,(r.2.2.2.2.2.2.1,(r.2.2.2.2.2.2.2.1,(r.2.2.2.2.2.2.2.2.1,((),())))))))))))),((),((),((),((),(r.2.2.2.2.2.2.2.2.2.1,(r.2.2.2.2.2.2.2.2.2.2.1,(r.2.2.2.2.2.2.2.2.2.2.2.1,(r.2.2.2.2.2.2.2.2.2.2.2.2,()))))))))))))}
def H7:Cx K:={eK with mode:=d6 .plain [(113,.bg),(231,.bg)],mv:=true,call:=callOf D [acv M.zS,mg M.eB],loop:=dR [(1,acz)]}
theorem acB:aP H7:=aV ar _ (af art (af m6 aA))
theorem aru:bF H7 (bq (bI Tryz.f202) 0) acz:=lk (cx:=H7) (sh:=aak) (run:=fun n x=>M.sk x.1.2.1 n x.1.2.2.2.1 x.2.1 x.2.2.2.1.1 x.2.2.2.1.2.1 x.2.2.2.1.2.2.1 x.2.2.2.1.2.2.2.1 x.2.2.2.1.2.2.2.2.2.2.2.1 x.2.2.2.1.2.2.2.2.2.2.2.2.1 x.2.2.2.1.2.2.2.2.2.2.2.2.2.1 x.2.2.2.1.2.2.2.2.2.2.2.2.2.2.1 x.2.2.2.2.2.2.2.2.1 x.2.2.2.2.2.2.2.2.2.1 x.2.2.2.2.2.2.2.2.2.2.1 x.2.2.2.2.2.2.2.2.2.2.2.1) (bG:=acy) acB (fun m x=>by kernel_rfl) (af ⟨cO,fun _ _ _=>rfl⟩ (af ⟨bL,fun _ _ _=>rfl⟩ aA))
theorem arv:ax (acA (M.xe)):=aX (cx:=H7) true acB Tryz.func202 (hl1 aru) ⟨aal,fun x=>(x.2.1,x.2.2.2.1.1,x.2.2.2.1.2.1,x.2.2.2.1.2.2.1,x.2.2.2.1.2.2.2.1,x.2.2.2.1.2.2.2.2.2.2.2.1,x.2.2.2.1.2.2.2.2.2.2.2.2.1,x.2.2.2.1.2.2.2.2.2.2.2.2.2.1,x.2.2.2.1.2.2.2.2.2.2.2.2.2.2.1,x.2.2.2.2.2.2.2.2.1,x.2.2.2.2.2.2.2.2.2.1,x.2.2.2.2.2.2.2.2.2.2.1,x.2.2.2.2.2.2.2.2.2.2.2.1)⟩ (fun x=>by kernel_rfl)
def acC(m:(List UInt8)->M.au->Option (M.ah×M.au)):aG K:={f:=199,sh:=Hm,R:=M.ah×M.au,run:=fun x=>m x.1.2.1 x.2.1,dflt:=default,out:=fun r=>(Sh.enc D (.el U.Item) r.1,aW.encs D [.el U.parser] (r.2,()))}
def acD:Cx K:=bp [(110,.bg),(113,.bg),(161,.bg),(202,.bg),(201,.bg)] [pH M.dj,mg M.eB,yv M.l5,acA M.xe,gY M.qx] []
theorem arw:aP acD:=aV ar _ (af rh (af m6 (af CH (af arv (af NF aA)))))
theorem arx:ax (acC (M.xj)):=aX (cx:=acD) true arw Tryz.func199 hq ⟨⟨[.el U.Item],[.el U.parser]⟩,fun x=>(x.1.1,x.2.1)⟩ (fun x=>by kernel_rfl)
def NH(m:M.au->Option (M.bc×M.au)):aG K:={f:=163,sh:=tB,R:=M.bc×M.au,run:=fun x=>m x.2.1,dflt:=default,out:=fun r=>(Sh.enc D (.el U.Path) r.1,aW.encs D [.el U.parser] (r.2,()))}
def acE:Cx K:=bp [(111,.bg),(113,.bg),(112,.bg)] [rf M.gA,mg M.eB,NG M.se] []
theorem ary:aP acE:=aV ar _ (af tG (af m6 (af acu aA)))
theorem acF:ax (NH (M.mK)):=aX (cx:=acE) true ary Tryz.func163 hq ⟨⟨[.el U.Path],[.el U.parser]⟩,fun x=>(x.1.1,x.2.1)⟩ (fun x=>by kernel_rfl)
def acG(m:Int->(List UInt8)->Int->(List UInt8)->Bool->(List UInt8)->(List UInt8)->(List UInt8)->(List M.ai)->Int->Bool->(List (List UInt8))->(List M.aa)->(List M.az)->(List M.aM)->Option (Int×(List UInt8)×Int×(List UInt8)×Bool×(List UInt8)×(List UInt8)×(List UInt8)×(List M.ai)×Int×Bool×(List (List UInt8))×(List M.aa)×(List M.az)×(List M.aM))):aG K:={f:=203,sh:=aai,R:=Int×(List UInt8)×Int×(List UInt8)×Bool×(List UInt8)×(List UInt8)×(List UInt8)×(List M.ai)×Int×Bool×(List (List UInt8))×(List M.aa)×(List M.az)×(List M.aM),run:=fun x=>m x.2.2.1.1 x.2.2.1.2.1 x.2.2.1.2.2.1 x.2.2.1.2.2.2.1 x.2.2.1.2.2.2.2.2.2.2.1 x.2.2.1.2.2.2.2.2.2.2.2.1 x.2.2.1.2.2.2.2.2.2.2.2.2.1 x.2.2.1.2.2.2.2.2.2.2.2.2.2.1 x.2.2.2.1.1 x.2.2.2.1.2.1 x.2.2.2.1.2.2.1 x.2.2.2.2.1 x.2.2.2.2.2.1 x.2.2.2.2.2.2.1 x.2.2.2.2.2.2.2.1,dflt:=default,out:=fun r=>(Sh.enc D (.bC []) (),aW.encs D [.box [.ptr 2 0],.box [iq0,.str,iq0,.str,.own 7,.own 8,.own 9,.bool,.str,.str,.str,.own 10],.box [.an U.Token,iq0,.bool],.dead,.dead,.dead,.dead,.arr U.str,.arr U.Term,.arr U.cY,.arr U.dc] (((),()),((r.1,(r.2.1,(r.2.2.1,(r.2.2.2.1,((),((),((),(r.2.2.2.2.1,(r.2.2.2.2.2.1,(r.2.2.2.2.2.2.1,(r.2.2.2.2.2.2.2.1,((),())))))))))))),((r.2.2.2.2.2.2.2.2.1,(r.2.2.2.2.2.2.2.2.2.1,(r.2.2.2.2.2.2.2.2.2.2.1,()))),((),((),((),((),(r.2.2.2.2.2.2.2.2.2.2.2.1,(r.2.2.2.2.2.2.2.2.2.2.2.2.1,(r.2.2.2.2.2.2.2.2.2.2.2.2.2.1,(r.2.2.2.2.2.2.2.2.2.2.2.2.2.2,()))))))))))))}
def acH:Cx K:={eK with mode:=d6 .plain [(200,.bg),(113,.bg)],mv:=true,call:=callOf D [H4 M.mF,mg M.eB],loop:=dR []}
theorem arz:aP acH:=aV ar _ (af ND (af m6 aA))
theorem arA:ax (acG (M.zT)):=aX (cx:=acH) true arz Tryz.func203 hq ⟨aaj,fun x=>(x.2.2.1.1,x.2.2.1.2.1,x.2.2.1.2.2.1,x.2.2.1.2.2.2.1,x.2.2.1.2.2.2.2.2.2.2.1,x.2.2.1.2.2.2.2.2.2.2.2.1,x.2.2.1.2.2.2.2.2.2.2.2.2.1,x.2.2.1.2.2.2.2.2.2.2.2.2.2.1,x.2.2.2.1.1,x.2.2.2.1.2.1,x.2.2.2.1.2.2.1,x.2.2.2.2.2.2.2.2.1,x.2.2.2.2.2.2.2.2.2.1,x.2.2.2.2.2.2.2.2.2.2.1,x.2.2.2.2.2.2.2.2.2.2.2.1)⟩ (fun x=>by kernel_rfl)
def acI:bE K:=bJ D false 30 7 [0,1,2,6] [] aam (fun x=>M.sn x.1.2.1 ad x.1.2.2.2.1 x.2.1 x.2.2.2.1.1 x.2.2.2.1.2.1 x.2.2.2.1.2.2.1 x.2.2.2.1.2.2.2.1 x.2.2.2.1.2.2.2.2.2.2.2.1 x.2.2.2.1.2.2.2.2.2.2.2.2.1 x.2.2.2.1.2.2.2.2.2.2.2.2.2.1 x.2.2.2.1.2.2.2.2.2.2.2.2.2.2.1 x.2.2.2.2.2.2.2.2.1 x.2.2.2.2.2.2.2.2.2.1 x.2.2.2.2.2.2.2.2.2.2.1 x.2.2.2.2.2.2.2.2.2.2.2.1) acx
def acJ(m:Int->M.au->Int->(List UInt8)->Int->(List UInt8)->Bool->(List UInt8)->(List UInt8)->(List UInt8)->(List (List UInt8))->(List M.aa)->(List M.az)->(List M.aM)->Option (M.au×Int×(List UInt8)×Int×(List UInt8)×Bool×(List UInt8)×(List UInt8)×(List UInt8)×(List (List UInt8))×(List M.aa)×(List M.az)×(List M.aM))):aG K:={f:=202,sh:=⟨[.ptr 0 0,iq0,.fn 203 [.ptr 1 0,.ptr 2 0]],[.el U.parser,.box [.ptr 0 0],.box [iq0,.str,iq0,.str,.own 3,.own 4,.own 5,.bool,.str,.str,.str,.own 6],.arr U.str,.arr U.Term,.arr U.cY,.arr U.dc]⟩,R:=M.au×Int×(List UInt8)×Int×(List UInt8)×Bool×(List UInt8)×(List UInt8)×(List UInt8)×(List (List UInt8))×(List M.aa)×(List M.az)×(List M.aM),run:=fun x=>m x.1.2.1 x.2.1 x.2.2.2.1.1 x.2.2.2.1.2.1 x.2.2.2.1.2.2.1 x.2.2.2.1.2.2.2.1 x.2.2.2.1.2.2.2.2.2.2.2.1 x.2.2.2.1.2.2.2.2.2.2.2.2.1 x.2.2.2.1.2.2.2.2.2.2.2.2.2.1 x.2.2.2.1.2.2.2.2.2.2.2.2.2.2.1 x.2.2.2.2.1 x.2.2.2.2.2.1 x.2.2.2.2.2.2.1 x.2.2.2.2.2.2.2.1,dflt:=default,out:=fun r=>(Sh.enc D (.bC []) (),aW.encs D [.el U.parser,.box [.ptr 0 0],.box [iq0,.str,iq0,.str,.own 7,.own 8,.own 9,.bool,.str,.str,.str,.own 10],.dead,.dead,.dead,.dead,.arr U.str,.arr U.Term,.arr U.cY,.arr U.dc] (r.1,(((),()),((r.2.1,(r.2.2.1,(r.2.2.2.1,(r.2.2.2.2.1,((),((),((),(r.2.2.2.2.2.1,(r.2.2.2.2.2.2.1,(r.2.2.2.2.2.2.2.1,(r.2.2.2.2.2.2.2.2.1,((),())))))))))))),((),((),((),((),(r.2.2.2.2.2.2.2.2.2.1,(r.2.2.2.2.2.2.2.2.2.2.1,(r.2.2.2.2.2.2.2.2.2.2.2.1,(r.2.2.2.2.2.2.2.2.2.2.2.2,()))))))))))))}
def H8:Cx K:={eK with mode:=d6 .plain [(113,.bg),(203,.bg)],mv:=true,call:=callOf D [acG M.zT,mg M.eB],loop:=dR [(1,acI)]}
theorem acK:aP H8:=aV ar _ (af arA (af m6 aA))
theorem arB:bF H8 (bq (bI Tryz.f202) 0) acI:=lk (cx:=H8) (sh:=aam) (run:=fun n x=>M.sn x.1.2.1 n x.1.2.2.2.1 x.2.1 x.2.2.2.1.1 x.2.2.2.1.2.1 x.2.2.2.1.2.2.1 x.2.2.2.1.2.2.2.1 x.2.2.2.1.2.2.2.2.2.2.2.1 x.2.2.2.1.2.2.2.2.2.2.2.2.1 x.2.2.2.1.2.2.2.2.2.2.2.2.2.1 x.2.2.2.1.2.2.2.2.2.2.2.2.2.2.1 x.2.2.2.2.2.2.2.2.1 x.2.2.2.2.2.2.2.2.2.1 x.2.2.2.2.2.2.2.2.2.2.1 x.2.2.2.2.2.2.2.2.2.2.2.1) (bG:=acy) acK (fun m x=>by kernel_rfl) (af ⟨cO,fun _ _ _=>rfl⟩ (af ⟨bL,fun _ _ _=>rfl⟩ aA))
theorem arC:ax (acJ (M.uS)):=aX (cx:=H8) true acK Tryz.func202 (hl1 arB) ⟨aal,fun x=>(x.2.1,x.2.2.2.1.1,x.2.2.2.1.2.1,x.2.2.2.1.2.2.1,x.2.2.2.1.2.2.2.1,x.2.2.2.1.2.2.2.2.2.2.2.1,x.2.2.2.1.2.2.2.2.2.2.2.2.1,x.2.2.2.1.2.2.2.2.2.2.2.2.2.1,x.2.2.2.1.2.2.2.2.2.2.2.2.2.2.1,x.2.2.2.2.2.2.2.2.1,x.2.2.2.2.2.2.2.2.2.1,x.2.2.2.2.2.2.2.2.2.2.1,x.2.2.2.2.2.2.2.2.2.2.2.1)⟩ (fun x=>by kernel_rfl)
def acL(m:M.au->Option (M.ah×M.au)):aG K:={f:=162,sh:=tB,R:=M.ah×M.au,run:=fun x=>m x.2.1,dflt:=default,out:=fun r=>(Sh.enc D (.el U.Item) r.1,aW.encs D [.el U.parser] (r.2,()))}
def acM:Cx K:=bp [(111,.bg),(161,.bg),(199,.bg),(200,.bg),(110,.bg),(201,.bg),(163,.bg),(202,.bg)] [rf M.gA,yv M.l5,acC M.xj,H4 M.mF,pH M.dj,gY M.qx,NH M.mK,acJ M.uS] []
theorem arD:aP acM:=aV ar _ (af tG (af CH (af arx (af ND (af rh (af NF (af acF (af arC aA))))))))
theorem arE:ax (acL (M.zY)):=aX (cx:=acM) true arD Tryz.func162 hq ⟨⟨[.el U.Item],[.el U.parser]⟩,fun x=>(x.1.1,x.2.1)⟩ (fun x=>by kernel_rfl)
def arF(y:M.au×(List UInt8)×(List UInt8)×(List M.ah)×(List M.ah)){R:Type}(k:KT R):R:=match y with|a0=>kk k (Ex.exit 0) ZN (((),((),((),()))),(a0.1,((a0.2.1,((),())),((a0.2.2.1,((),())),((),((),(a0.2.2.2.1,(a0.2.2.2.2,()))))))))
def arG:List (cz K (M.au×(List UInt8)×(List UInt8)×(List M.ah)×(List M.ah))):=[⟨(Ex.exit 0),ZN,fun x=>(x.2.1,x.2.2.1.1,x.2.2.2.1.1,x.2.2.2.2.2.2.1,x.2.2.2.2.2.2.2.1)⟩]
def acN:bE K:=bJ D false 37 5 [0,2,3] [0,2,3] ZN (fun x=>M.xk x.2.2.1.1 x.2.2.2.1.1 x.2.2.2.2.2.2.1 ad x.2.1 x.2.2.2.2.2.2.2.1) arF
def acO(m:M.au->Option (M.aE×M.au)):aG K:={f:=114,sh:=tB,R:=M.aE×M.au,run:=fun x=>m x.2.1,dflt:=default,out:=fun r=>(Sh.enc D (.el U.cD) r.1,aW.encs D [.el U.parser] (r.2,()))}
def H9:Cx K:=bp [(111,.bg),(110,.bg),(161,.bg),(162,.bg)] [rf M.gA,pH M.dj,yv M.l5,acL M.zY] [(3,acN)]
theorem acP:aP H9:=aV ar _ (af tG (af rh (af CH (af arE aA))))
theorem arH:bF H9 (bq (bI Tryz.f114) 0) acN:=lk (cx:=H9) (sh:=ZN) (run:=fun n x=>M.xk x.2.2.1.1 x.2.2.2.1.1 x.2.2.2.2.2.2.1 n x.2.1 x.2.2.2.2.2.2.2.1) (bG:=arG) acP (fun m x=>by kernel_rfl) (af ⟨bL,fun _ _ _=>rfl⟩ aA)
theorem arI:ax (acO (M.xl)):=aX (cx:=H9) true acP Tryz.func114 (hl1 arH) ⟨⟨[.el U.cD],[.el U.parser]⟩,fun x=>(x.1.1,x.2.1)⟩ (fun x=>by kernel_rfl)
def arJ(y:M.au×(List UInt8)×(List UInt8)×(List M.aH)×(List M.aH)){R:Type}(k:KT R):R:=match y with|a0=>kk k (Ex.exit 0) Fq (((),((),((),()))),(a0.1,((a0.2.1,((),())),((a0.2.2.1,((),())),((),((),(a0.2.2.2.1,(a0.2.2.2.2,()))))))))
def arK:List (cz K (M.au×(List UInt8)×(List UInt8)×(List M.aH)×(List M.aH))):=[⟨(Ex.exit 0),Fq,fun x=>(x.2.1,x.2.2.1.1,x.2.2.2.1.1,x.2.2.2.2.2.2.1,x.2.2.2.2.2.2.2.1)⟩]
def acQ:bE K:=bJ D false 56 5 [0,2,3] [0,2,3] Fq (fun x=>M.qB x.2.2.1.1 x.2.2.2.1.1 x.2.2.2.2.2.2.1 ad x.2.1 x.2.2.2.2.2.2.2.1) arJ
def acR(m:M.au->Option (M.aJ×M.au)):aG K:={f:=115,sh:=tB,R:=M.aJ×M.au,run:=fun x=>m x.2.1,dflt:=default,out:=fun r=>(Sh.enc D (.el U.cX) r.1,aW.encs D [.el U.parser] (r.2,()))}
def Ia:Cx K:=bp [(111,.bg),(110,.bg),(161,.bg),(113,.bg),(163,.bg)] [rf M.gA,pH M.dj,yv M.l5,mg M.eB,NH M.mK] [(3,acQ)]
theorem acS:aP Ia:=aV ar _ (af tG (af rh (af CH (af m6 (af acF aA)))))
theorem arL:bF Ia (bq (bI Tryz.f115) 0) acQ:=lk (cx:=Ia) (sh:=Fq) (run:=fun n x=>M.qB x.2.2.1.1 x.2.2.2.1.1 x.2.2.2.2.2.2.1 n x.2.1 x.2.2.2.2.2.2.2.1) (bG:=arK) acS (fun m x=>by kernel_rfl) (af ⟨bL,fun _ _ _=>rfl⟩ aA)
theorem arM:ax (acR (M.uT)):=aX (cx:=Ia) true acS Tryz.func115 (hl1 arL) ⟨⟨[.el U.cX],[.el U.parser]⟩,fun x=>(x.1.1,x.2.1)⟩ (fun x=>by kernel_rfl)
def jP(m:Int->M.aD->Option (M.aa×M.aD)):aG K:={f:=187,sh:=⟨[.ptr 0 0,iq0],[.el U.dm]⟩,R:=M.aa×M.aD,run:=fun x=>m x.1.2.1 x.2.1,dflt:=default,out:=fun r=>(Sh.enc D (.el U.Term) r.1,aW.encs D [.el U.dm] (r.2,()))}
def acT(m:Int->M.aD->Option ((List M.aa)×M.aD)):aG K:={f:=224,sh:=⟨[.ptr 0 0,iq0],[.el U.dm]⟩,R:=(List M.aa)×M.aD,run:=fun x=>m x.1.2.1 x.2.1,dflt:=default,out:=fun r=>(Sh.enc D (.an U.Term) r.1,aW.encs D [.el U.dm] (r.2,()))}
def acU(cf:Int->M.aD->Option (M.aa×M.aD)):Cx K:=bp [(97,.bg),(187,.bg),(94,.bg)] [me M.dJ,jP cf,mX M.dE] []
theorem arN(cf:Int->M.aD->Option (M.aa×M.aD))(jj:ax (jP cf)):aP (acU cf):=aV ar _ (af mY (af jj (af nQ aA)))
theorem arO(cf:Int->M.aD->Option (M.aa×M.aD))(jj:ax (jP cf)):ax (acT (M.zR cf)):=fP (cx:=acU cf) (fz:=true) ar (arN cf jj) bm ⟨Tryz.func224,by kernel_rfl⟩ hq ⟨⟨[.an U.Term],[.el U.dm]⟩,fun x=>(x.1.1,x.2.1)⟩ (fun x=>rfl) (fun x=>by kernel_rfl)
def acV(m:(List UInt8)->Option Bool):aG K:=cB 222 eY (fun x=>m x.1.1)
def acW:Cx K:=bp [(223,.plain)] [NB M.rY] []
theorem arP:aP acW:=aV ar _ (af abP aA)
theorem arQ:ax (acV (M.zK)):=aX (cx:=acW) true arP Tryz.func222 hq ⟨zs0,fun x=>x.1.1⟩ (fun x=>by kernel_rfl)
def Ib(m:M.aD->Option ((List UInt8)×M.aD)):aG K:={f:=186,sh:=mZ,R:=(List UInt8)×M.aD,run:=fun x=>m x.2.1,dflt:=default,out:=fun r=>(Sh.enc D (.str) r.1,aW.encs D [.el U.dm] (r.2,()))}
def acX:Cx K:=bp [(59,.bg),(222,.plain),(95,.bg)] [vq M.kL,acV M.zK,pz M.fR] []
theorem arR:aP acX:=aV ar _ (af x7 (af arQ (af qU aA)))
theorem NI:ax (Ib (M.mG)):=aX (cx:=acX) true arR Tryz.func186 hq ⟨MO,fun x=>(x.1.1,x.2.1)⟩ (fun x=>by kernel_rfl)
def CL(m:Int->Int->M.aD->Option (M.aD)):aG K:={f:=225,sh:=⟨[.ptr 0 0,iq0,iq0],[.el U.dm]⟩,R:=M.aD,run:=fun x=>m x.1.2.1 x.1.2.2.1 x.2.1,dflt:=default,out:=fun r=>(Sh.enc D (.bC []) (),aW.encs D [.el U.dm] (r,()))}
def acY:Cx K:=bp [(94,.bg)] [mX M.dE] []
theorem arS:aP acY:=aV ar _ (af nQ aA)
theorem Ic:ax (CL (M.jJ)):=aX (cx:=acY) true arS Tryz.func225 hq ⟨MN,fun x=>x.2.1⟩ (fun x=>by kernel_rfl)
def arT(y:(List M.ai)×Int×Bool×Int×(List UInt8)×(List (List UInt8))×(List M.aa)){R:Type}(k:KT R):R:=match y with|a0=>kk k (Ex.exit 0) aan ((),((a0.1,(a0.2.1,(a0.2.2.1,()))),((a0.2.2.2.1,(a0.2.2.2.2.1,((),((),())))),((),((),(a0.2.2.2.2.2.1,(a0.2.2.2.2.2.2,())))))))
def arU:List (cz K ((List M.ai)×Int×Bool×Int×(List UInt8)×(List (List UInt8))×(List M.aa))):=[⟨(Ex.exit 0),aan,fun x=>(x.2.1.1,x.2.1.2.1,x.2.1.2.2.1,x.2.2.1.1,x.2.2.1.2.1,x.2.2.2.2.2.1,x.2.2.2.2.2.2.1)⟩]
def acZ(cf:Int->M.aD->Option (M.aa×M.aD)):bE K:=bJ D false 98 4 [0,1,2] [] aao (fun x=>M.jK cf x.1.2.2.1 x.2.2.1.1 x.2.2.1.2.1 ad x.2.1 x.2.2.2.2.2.1 x.2.2.2.2.2.2.1) arT
def ac0(m:Int->M.aD->Int->(List UInt8)->(List (List UInt8))->(List M.aa)->Option (M.aD×Int×(List UInt8)×(List (List UInt8))×(List M.aa))):aG K:={f:=226,sh:=⟨[.ptr 0 0,.ptr 1 0,iq0],[.el U.dm,.box [iq0,.str,.own 2,.own 3],.arr U.str,.arr U.Term]⟩,R:=M.aD×Int×(List UInt8)×(List (List UInt8))×(List M.aa),run:=fun x=>m x.1.2.2.1 x.2.1 x.2.2.1.1 x.2.2.1.2.1 x.2.2.2.1 x.2.2.2.2.1,dflt:=default,out:=fun r=>(Sh.enc D (.bC []) (),aW.encs D [.el U.dm,.box [iq0,.str,.own 4,.own 5],.dead,.dead,.arr U.str,.arr U.Term] (r.1,((r.2.1,(r.2.2.1,((),((),())))),((),((),(r.2.2.2.1,(r.2.2.2.2,())))))))}
def Ie(cf:Int->M.aD->Option (M.aa×M.aD)):Cx K:={eK with mode:=d6 .plain [(94,.bg),(95,.bg),(187,.bg),(97,.bg),(225,.bg)],mv:=true,call:=callOf D [mX M.dE,pz M.fR,jP cf,me M.dJ,CL M.jJ],loop:=dR [(1,acZ cf)]}
theorem ac1(cf:Int->M.aD->Option (M.aa×M.aD))(jj:ax (jP cf)):aP (Ie cf):=aV ar _ (af nQ (af qU (af jj (af mY (af Ic aA)))))
theorem arV(cf:Int->M.aD->Option (M.aa×M.aD))(jj:ax (jP cf)):bF (Ie cf) (bq (bI Tryz.f226) 0) (acZ cf):=lk (cx:=Ie cf) (sh:=aao) (run:=fun n x=>M.jK cf x.1.2.2.1 x.2.2.1.1 x.2.2.1.2.1 n x.2.1 x.2.2.2.2.2.1 x.2.2.2.2.2.2.1) (bG:=arU) (ac1 cf jj) (fun m x=>by kernel_rfl) (af ⟨bL,fun _ _ _=>rfl⟩ aA)
theorem arW(cf:Int->M.aD->Option (M.aa×M.aD))(jj:ax (jP cf)):ax (ac0 (M.mH cf)):=fP (cx:=Ie cf) (fz:=true) ar (ac1 cf jj) bm ⟨Tryz.func226,by kernel_rfl⟩ (hl1 (arV cf jj)) ⟨⟨[.bC []],[.el U.dm,.box [iq0,.str,.own 4,.own 5],.dead,.dead,.arr U.str,.arr U.Term]⟩,fun x=>(x.2.1,x.2.2.1.1,x.2.2.1.2.1,x.2.2.2.2.2.1,x.2.2.2.2.2.2.1)⟩ (fun x=>rfl) (fun x=>by kernel_rfl)
def arX(y:(List M.ai)×Int×Bool×Int×(List UInt8)×Int×(List UInt8)×(List (List UInt8))×(List M.aa)×(List (List UInt8))×(List M.aa)){R:Type}(k:KT R):R:=match y with|a0=>kk k (Ex.exit 1) aap (((),((),())),((a0.1,(a0.2.1,(a0.2.2.1,()))),((a0.2.2.2.1,(a0.2.2.2.2.1,((),((),())))),((a0.2.2.2.2.2.1,(a0.2.2.2.2.2.2.1,((),((),())))),((),((),((),((),(a0.2.2.2.2.2.2.2.1,(a0.2.2.2.2.2.2.2.2.1,(a0.2.2.2.2.2.2.2.2.2.1,(a0.2.2.2.2.2.2.2.2.2.2,()))))))))))))
def arY:List (cz K ((List M.ai)×Int×Bool×Int×(List UInt8)×Int×(List UInt8)×(List (List UInt8))×(List M.aa)×(List (List UInt8))×(List M.aa))):=[⟨(Ex.exit 1),aap,fun x=>(x.2.1.1,x.2.1.2.1,x.2.1.2.2.1,x.2.2.1.1,x.2.2.1.2.1,x.2.2.2.1.1,x.2.2.2.1.2.1,x.2.2.2.2.2.2.2.2.1,x.2.2.2.2.2.2.2.2.2.1,x.2.2.2.2.2.2.2.2.2.2.1,x.2.2.2.2.2.2.2.2.2.2.2.1)⟩]
def ac2(cf:Int->M.aD->Option (M.aa×M.aD)):bE K:=bJ D false 101 7 [0,1,4,6] [4,6] aaq (fun x=>M.qw cf x.1.2.1 x.2.2.1.1 x.2.2.1.2.1 x.2.2.2.1.1 x.2.2.2.1.2.1 x.2.2.2.2.2.2.2.2.1 x.2.2.2.2.2.2.2.2.2.1 x.2.2.2.2.2.2.2.2.2.2.1 ad x.2.1 x.2.2.2.2.2.2.2.2.2.2.2.1) arX
def Ig(cf:Int->M.aD->Option (M.aa×M.aD)):Cx K:=bp [(95,.bg),(223,.plain),(94,.bg),(187,.bg),(224,.bg),(97,.bg),(225,.bg),(186,.bg),(226,.bg)] [pz M.fR,NB M.rY,mX M.dE,jP cf,acT (M.zR cf),Ib M.mG,ac0 (M.mH cf),me M.dJ,CL M.jJ] [(20,ac2 cf)]
theorem ac3(cf:Int->M.aD->Option (M.aa×M.aD))(jj:ax (jP cf)):aP (Ig cf):=aV ar _ (af qU (af abP (af nQ (af jj (af (arO cf jj) (af NI (af (arW cf jj) (af mY (af Ic aA)))))))))
theorem arZ(cf:Int->M.aD->Option (M.aa×M.aD))(jj:ax (jP cf)):bF (Ig cf) (bq (bI Tryz.f187) 0) (ac2 cf):=lk (cx:=Ig cf) (sh:=aaq) (run:=fun n x=>M.qw cf x.1.2.1 x.2.2.1.1 x.2.2.1.2.1 x.2.2.2.1.1 x.2.2.2.1.2.1 x.2.2.2.2.2.2.2.2.1 x.2.2.2.2.2.2.2.2.2.1 x.2.2.2.2.2.2.2.2.2.2.1 n x.2.1 x.2.2.2.2.2.2.2.2.2.2.2.1) (bG:=arY) (ac3 cf jj) (fun m x=>by kernel_rfl) (af ⟨bL,fun _ _ _=>rfl⟩ aA)
theorem ar0(cf:Int->M.aD->Option (M.aa×M.aD))(jj:ax (jP cf)):ax (jP (M.uO cf)):=fP (cx:=Ig cf) (fz:=true) ar (ac3 cf jj) bm ⟨Tryz.func187,by kernel_rfl⟩ (hl1 (arZ cf jj)) ⟨⟨[.el U.Term],[.el U.dm]⟩,fun x=>(x.1.1,x.2.1)⟩ (fun x=>rfl) (fun x=>by kernel_rfl)
theorem ac4:∀n,ax (jP (M.si n))|0=>nw fun _=>rfl|n+1=>ar0 (M.si n) (ac4 n)
theorem NJ:ax (jP (M.sj)):=ac4 ad
def ac5(y:(List M.ai)×Int×Bool×(List UInt8)×(List UInt8)×(List UInt8)×(List UInt8)×(List M.aE)×(List M.aJ)×(List M.aE)×(List M.aJ)){R:Type}(k:KT R):R:=match y with|a0=>kk k (Ex.exit 0) Ht (((),((),())),((a0.1,(a0.2.1,(a0.2.2.1,()))),((a0.2.2.2.1,(a0.2.2.2.2.1,((),((),())))),((a0.2.2.2.2.2.1,(a0.2.2.2.2.2.2.1,((),((),())))),((),((),((),((),(a0.2.2.2.2.2.2.2.1,(a0.2.2.2.2.2.2.2.2.1,(a0.2.2.2.2.2.2.2.2.2.1,(a0.2.2.2.2.2.2.2.2.2.2,()))))))))))))
def Ub:List (cz K ((List M.ai)×Int×Bool×(List UInt8)×(List UInt8)×(List UInt8)×(List UInt8)×(List M.aE)×(List M.aJ)×(List M.aE)×(List M.aJ))):=[⟨(Ex.exit 0),Ht,fun x=>(x.2.1.1,x.2.1.2.1,x.2.1.2.2.1,x.2.2.1.1,x.2.2.1.2.1,x.2.2.2.1.1,x.2.2.2.1.2.1,x.2.2.2.2.2.2.2.2.1,x.2.2.2.2.2.2.2.2.2.1,x.2.2.2.2.2.2.2.2.2.2.1,x.2.2.2.2.2.2.2.2.2.2.2.1)⟩]
def ac6:bE K:=bJ D false 72 7 [0,2,3] [2,3] aar (fun x=>M.jM x.2.2.1.1 x.2.2.1.2.1 x.2.2.2.1.1 x.2.2.2.1.2.1 x.2.2.2.2.2.2.2.2.1 x.2.2.2.2.2.2.2.2.2.1 ad x.2.1 x.2.2.2.2.2.2.2.2.2.2.1 x.2.2.2.2.2.2.2.2.2.2.2.1) ac5
def ac7(m:M.au->Option ((List UInt8)×(List UInt8)×M.au×(List M.aE)×(List M.aJ))):aG K:={f:=74,sh:=tB,R:=(List UInt8)×(List UInt8)×M.au×(List M.aE)×(List M.aJ),run:=fun x=>m x.2.1,dflt:=default,out:=fun r=>(Sh.enc D (.agg [.str,.str,.own 1,.own 2]) (r.1,(r.2.1,((),((),())))),aW.encs D [.el U.parser,.arr U.cD,.arr U.cX] (r.2.2.1,(r.2.2.2.1,(r.2.2.2.2,()))))}
def Ih:Cx K:={eK with mode:=d6 .plain [(110,.bg),(111,.bg),(112,.bg),(113,.bg),(114,.bg),(115,.bg)],iq:=[[none,none,some U.cD,some U.cX]],call:=callOf D [pH M.dj,rf M.gA,NG M.se,mg M.eB,acO M.xl,acR M.uT],loop:=dR [(7,ac6)]}
theorem ac8:aP Ih:=aV ar _ (af rh (af tG (af acu (af m6 (af arI (af arM aA))))))
theorem ar1:bF Ih (bq (bI Tryz.f74) 0) ac6:=lk (cx:=Ih) (sh:=aar) (run:=fun n x=>M.jM x.2.2.1.1 x.2.2.1.2.1 x.2.2.2.1.1 x.2.2.2.1.2.1 x.2.2.2.2.2.2.2.2.1 x.2.2.2.2.2.2.2.2.2.1 n x.2.1 x.2.2.2.2.2.2.2.2.2.2.1 x.2.2.2.2.2.2.2.2.2.2.2.1) (bG:=Ub) ac8 (fun m x=>by kernel_rfl) (af ⟨bL,fun _ _ _=>rfl⟩ aA)
theorem ar2:ax (ac7 (M.Ac)):=aX (cx:=Ih) false ac8 Tryz.func74 (hl1 ar1) ⟨⟨[.agg [.str,.str,.own 1,.own 2]],[.el U.parser,.arr U.cD,.arr U.cX]⟩,fun x=>(x.1.1.1,x.1.1.2.1,x.2.1,x.2.2.1,x.2.2.2.1)⟩ (fun x=>by kernel_rfl)
def ac9(m:M.au->(List UInt8)->(List UInt8)->(List M.aE)->(List M.aJ)->Option (M.au×(List UInt8)×(List UInt8)×(List M.aE)×(List M.aJ))):aG K:={f:=73,sh:=⟨[.ptr 0 0,.ptr 1 0],[.el U.parser,.box [.str,.str,.own 2,.own 3],.arr U.cD,.arr U.cX]⟩,R:=M.au×(List UInt8)×(List UInt8)×(List M.aE)×(List M.aJ),run:=fun x=>m x.2.1 x.2.2.1.1 x.2.2.1.2.1 x.2.2.2.1 x.2.2.2.2.1,dflt:=default,out:=fun r=>(Sh.enc D (.bC []) (),aW.encs D [.el U.parser,.box [.str,.str,.own 4,.own 5],.dead,.dead,.arr U.cD,.arr U.cX] (r.1,((r.2.1,(r.2.2.1,((),((),())))),((),((),(r.2.2.2.1,(r.2.2.2.2,())))))))}
def ada:Cx K:={eK with mode:=d6 .plain [(74,.bg)],mv:=true,call:=callOf D [ac7 M.Ac],loop:=dR []}
theorem ar4:aP ada:=aV ar _ (af ar2 aA)
theorem ar5:ax (ac9 (M.Ad)):=aX (cx:=ada) true ar4 Tryz.func73 hq ⟨⟨[.bC []],[.el U.parser,.box [.str,.str,.own 4,.own 5],.dead,.dead,.arr U.cD,.arr U.cX]⟩,fun x=>(x.2.1,x.2.2.1.1,x.2.2.1.2.1,x.2.2.2.2.2.1,x.2.2.2.2.2.2.1)⟩ (fun x=>by kernel_rfl)
def adb(m:(List UInt8)->(List UInt8)->(List UInt8)->(List M.aE)->(List M.aJ)->Option (Int×Int×(List UInt8)×(List UInt8)×(List M.aE)×(List M.aJ))):aG K:={f:=72,sh:=⟨[.str,.fn 73 [.ptr 0 0]],[.box [.str,.str,.own 1,.own 2],.arr U.cD,.arr U.cX]⟩,R:=Int×Int×(List UInt8)×(List UInt8)×(List M.aE)×(List M.aJ),run:=fun x=>m x.1.1 x.2.1.1 x.2.1.2.1 x.2.2.1 x.2.2.2.1,dflt:=default,out:=fun r=>(Sh.enc D (.bC [iq0,iq0]) (r.1,(r.2.1,())),aW.encs D [.box [.str,.str,.own 3,.own 4],.dead,.dead,.arr U.cD,.arr U.cX] ((r.2.2.1,(r.2.2.2.1,((),((),())))),((),((),(r.2.2.2.2.1,(r.2.2.2.2.2,()))))))}
def ade:Cx K:={eK with mode:=d6 .plain [(109,.jH),(73,.bg)],mv:=true,call:=callOf D [abH M.zD,ac9 M.Ad],loop:=dR []}
theorem ar6:aP ade:=aV ar _ (af aqF (af ar5 aA))
theorem ar7:ax (adb (M.oM)):=aX (cx:=ade) true ar6 Tryz.func72 hq ⟨⟨[.bC [iq0,iq0]],[.box [.str,.str,.own 3,.own 4],.dead,.dead,.arr U.cD,.arr U.cX]⟩,fun x=>(x.1.1.1,x.1.1.2.1,x.2.1.1,x.2.1.2.1,x.2.2.2.2.1,x.2.2.2.2.2.1)⟩ (fun x=>by kernel_rfl)
def adf(m:M.aM->Option ((List UInt8))):aG K:=cS 116 ZO (fun x=>m x.1.1)
theorem ar8:ax (adf (M.Ae)):=aX (cx:=gG) true gX Tryz.func116 hq ⟨eY,fun x=>x.1.1⟩ (fun x=>by kernel_rfl)
def ar9(y:(List M.aE)×Int×Int×(List M.ah)×Int×Int×M.aj×M.aE×(List (List UInt8))×(List (List UInt8))×(List (List UInt8))×(List (List UInt8))){R:Type}(k:KT R):R:=match y with|a0=>kk k (Ex.exit 5) ZP (((),((),((),((),((),((),(a0.1,(a0.2.1,(a0.2.2.1,(a0.2.2.2.1,(a0.2.2.2.2.1,(a0.2.2.2.2.2.1,())))))))))))),(a0.2.2.2.2.2.2.1,((),((),(a0.2.2.2.2.2.2.2.1,((),((),(a0.2.2.2.2.2.2.2.2.1,(a0.2.2.2.2.2.2.2.2.2.1,(a0.2.2.2.2.2.2.2.2.2.2.1,(a0.2.2.2.2.2.2.2.2.2.2.2,())))))))))))
def asa:List (cz K ((List M.aE)×Int×Int×(List M.ah)×Int×Int×M.aj×M.aE×(List (List UInt8))×(List (List UInt8))×(List (List UInt8))×(List (List UInt8)))):=[⟨(Ex.exit 5),ZP,fun x=>(x.1.2.2.2.2.2.2.1,x.1.2.2.2.2.2.2.2.1,x.1.2.2.2.2.2.2.2.2.1,x.1.2.2.2.2.2.2.2.2.2.1,x.1.2.2.2.2.2.2.2.2.2.2.1,x.1.2.2.2.2.2.2.2.2.2.2.2.1,x.2.1,x.2.2.2.2.1,x.2.2.2.2.2.2.2.1,x.2.2.2.2.2.2.2.2.1,x.2.2.2.2.2.2.2.2.2.1,x.2.2.2.2.2.2.2.2.2.2.1)⟩]
def adg:bE K:=bJ D false 96 6 [1,3,4,6,7,8,18,19,20,27,28,29,50,51,52] [1,3,4,6,7,8,18,19,20,27,28,29] Ux (fun x=>M.xp x.1.2.2.2.2.2.2.1 x.1.2.2.2.2.2.2.2.1 x.1.2.2.2.2.2.2.2.2.1 x.1.2.2.2.2.2.2.2.2.2.1 x.1.2.2.2.2.2.2.2.2.2.2.1 x.1.2.2.2.2.2.2.2.2.2.2.2.1 x.1.2.2.2.2.2.2.2.2.2.2.2.2.1 x.1.2.2.2.2.2.2.2.2.2.2.2.2.2.1 x.2.1 x.2.2.2.2.1 x.2.2.2.2.2.2.2.1 x.2.2.2.2.2.2.2.2.1 x.2.2.2.2.2.2.2.2.2.1 ad x.1.2.2.2.2.2.2.2.2.2.2.2.2.2.2.1 x.2.2.2.2.2.2.2.2.2.2.1) ar9
def asb(y:(List M.aE)×Int×Int×M.aj×M.aE×(List (List UInt8))×(List (List UInt8))×(List (List UInt8))×(List (List UInt8))){R:Type}(k:KT R):R:=match y with|a0=>kk k (Ex.exit 2) aas (((),((),((),((),((),((),(a0.1,(a0.2.1,(a0.2.2.1,()))))))))),(a0.2.2.2.1,((),((),(a0.2.2.2.2.1,((),((),(a0.2.2.2.2.2.1,(a0.2.2.2.2.2.2.1,(a0.2.2.2.2.2.2.2.1,(a0.2.2.2.2.2.2.2.2,())))))))))))
def asc:List (cz K ((List M.aE)×Int×Int×M.aj×M.aE×(List (List UInt8))×(List (List UInt8))×(List (List UInt8))×(List (List UInt8)))):=[⟨(Ex.exit 2),aas,fun x=>(x.1.2.2.2.2.2.2.1,x.1.2.2.2.2.2.2.2.1,x.1.2.2.2.2.2.2.2.2.1,x.2.1,x.2.2.2.2.1,x.2.2.2.2.2.2.2.1,x.2.2.2.2.2.2.2.2.1,x.2.2.2.2.2.2.2.2.2.1,x.2.2.2.2.2.2.2.2.2.2.1)⟩]
def adh:bE K:=bJ D false 96 6 [1,3,4,6,7,8,18,19,20,27,28,29] [1,3,4,6,7,8,18,19,20] ZP (fun x=>M.sw ad x.1.2.2.2.2.2.2.1 x.1.2.2.2.2.2.2.2.1 x.1.2.2.2.2.2.2.2.2.1 x.1.2.2.2.2.2.2.2.2.2.1 x.1.2.2.2.2.2.2.2.2.2.2.1 x.1.2.2.2.2.2.2.2.2.2.2.2.1 x.2.1 x.2.2.2.2.1 x.2.2.2.2.2.2.2.1 x.2.2.2.2.2.2.2.2.1 x.2.2.2.2.2.2.2.2.2.1 x.2.2.2.2.2.2.2.2.2.2.1) asb
def Uo(y:Bool⊕(M.aj×(List (List UInt8))×(List (List UInt8)))){R:Type}(k:KT R):R:=match y with|.inl a0=>kk k Ex.ret Ft (((),((),((),(a0,())))),((),((),((),((),((),()))))))|.inr a1=>kk k (Ex.exit 0) Fz (((),((),((),((),())))),(a1.1,((),((),(a1.2.1,(a1.2.2,()))))))
def Us:List (cz K ((Bool)⊕(M.aj×(List (List UInt8))×(List (List UInt8))))):=[⟨Ex.ret,Ft,fun x=>.inl x.1.2.2.2.1⟩,⟨(Ex.exit 0),Fz,fun x=>.inr ((x.2.1,x.2.2.2.2.1,x.2.2.2.2.2.1))⟩]
def adi:bE K:=bJ D false 96 3 [1,3,4,18,19,20] [1,3,4,2] aat (fun x=>M.xt ad x.1.2.2.2.1 x.1.2.2.2.2.1 x.1.2.2.2.2.2.1 x.2.1 x.2.2.2.2.1 x.2.2.2.2.2.1) Uo
def ase(y:(List (List UInt8))×(List (List UInt8))){R:Type}(k:KT R):R:=match y with|a0=>kk k (Ex.exit 7) aau (((),((),())),((),((),(a0.1,(a0.2,())))))
def asf:List (cz K ((List (List UInt8))×(List (List UInt8)))):=[⟨(Ex.exit 7),aau,fun x=>(x.2.2.2.1,x.2.2.2.2.1)⟩]
def adk:bE K:=bJ D false 96 2 [3,4,78,79,80] [3,4] aav (fun x=>M.xu x.1.2.2.1 x.1.2.2.2.1 x.2.2.2.1 ad x.1.2.2.2.2.1 x.2.2.2.2.1) ase
def adl(m:M.aj->Option Bool):aG K:=cB 75 qV (fun x=>m x.1.1)
def pI:Cx K:=bp [(116,.plain),(117,.plain)] [adf M.Ae,KW M.ny] [(15,adg),(7,adh),(3,adi),(25,adk)]
theorem CM:aP pI:=aV ar _ (af ar8 (af agD aA))
theorem asg:bF pI (bq (bq (bq (bI Tryz.f75) 0) 0) 0) adg:=lk (cx:=pI) (sh:=Ux) (run:=fun n x=>M.xp x.1.2.2.2.2.2.2.1 x.1.2.2.2.2.2.2.2.1 x.1.2.2.2.2.2.2.2.2.1 x.1.2.2.2.2.2.2.2.2.2.1 x.1.2.2.2.2.2.2.2.2.2.2.1 x.1.2.2.2.2.2.2.2.2.2.2.2.1 x.1.2.2.2.2.2.2.2.2.2.2.2.2.1 x.1.2.2.2.2.2.2.2.2.2.2.2.2.2.1 x.2.1 x.2.2.2.2.1 x.2.2.2.2.2.2.2.1 x.2.2.2.2.2.2.2.2.1 x.2.2.2.2.2.2.2.2.2.1 n x.1.2.2.2.2.2.2.2.2.2.2.2.2.2.2.1 x.2.2.2.2.2.2.2.2.2.2.1) (bG:=asa) CM (fun m x=>by kernel_rfl) (af ⟨bL,fun _ _ _=>rfl⟩ aA)
theorem ash:bF pI (bq (bq (bI Tryz.f75) 0) 0) adh:=lk (cx:=pI) (sh:=ZP) (run:=fun n x=>M.sw n x.1.2.2.2.2.2.2.1 x.1.2.2.2.2.2.2.2.1 x.1.2.2.2.2.2.2.2.2.1 x.1.2.2.2.2.2.2.2.2.2.1 x.1.2.2.2.2.2.2.2.2.2.2.1 x.1.2.2.2.2.2.2.2.2.2.2.2.1 x.2.1 x.2.2.2.2.1 x.2.2.2.2.2.2.2.1 x.2.2.2.2.2.2.2.2.1 x.2.2.2.2.2.2.2.2.2.1 x.2.2.2.2.2.2.2.2.2.2.1) (bG:=asc) CM (fun m x=>by kernel_rfl) (af ⟨bL,fun _ _ _=>rfl⟩ aA) (hl:=(bP 1 (by kernel_rfl) (bQ (.mk (by kernel_rfl) asg))))
theorem asi:bF pI (bq (bI Tryz.f75) 0) adi:=lk (cx:=pI) (sh:=aat) (run:=fun n x=>M.xt n x.1.2.2.2.1 x.1.2.2.2.2.1 x.1.2.2.2.2.2.1 x.2.1 x.2.2.2.2.1 x.2.2.2.2.2.1) (bG:=Us) CM (fun m x=>by kernel_rfl) (af ⟨cO,fun _ _ _=>rfl⟩ (af ⟨bL,fun _ _ _=>rfl⟩ aA)) (hl:=(bP 1 (by kernel_rfl) (bQ (.mk (by kernel_rfl) ash))))
theorem asj:bF pI (bq (bI Tryz.f75) 1) adk:=lk (cx:=pI) (sh:=aav) (run:=fun n x=>M.xu x.1.2.2.1 x.1.2.2.2.1 x.2.2.2.1 n x.1.2.2.2.2.1 x.2.2.2.2.1) (bG:=asf) CM (fun m x=>by kernel_rfl) (af ⟨bL,fun _ _ _=>rfl⟩ aA)
theorem asl:ax (adl (M.Ag)):=aX (cx:=pI) true CM Tryz.func75 (hl2 asi asj) ⟨zs0,fun x=>x.1.1⟩ (fun x=>by kernel_rfl)
def Wi(m:(List UInt8)->Option (M.aj×Int×Int)):aG K:={f:=46,sh:=eY,R:=M.aj×Int×Int,run:=fun x=>m x.1.1,dflt:=default,out:=fun r=>(Sh.enc D (.bC [.el U.ba,iq0,iq0]) (r.1,(r.2.1,(r.2.2,()))),aW.encs D [] ())}
def adm:Cx K:=bp [(72,.bg),(75,.plain)] [adb M.oM,adl M.Ag] []
theorem asn:aP adm:=aV ar _ (af ar7 (af asl aA))
theorem amq:ax (Wi (M.Ak)):=aX (cx:=adm) true asn Tryz.func46 hq ⟨aaw,fun x=>(x.1.1.1,x.1.1.2.1,x.1.1.2.2.1)⟩ (fun x=>by kernel_rfl)
def MI(m:M.aD->Option ((List UInt8)×M.aD)):aG K:={f:=96,sh:=mZ,R:=(List UInt8)×M.aD,run:=fun x=>m x.2.1,dflt:=default,out:=fun r=>(Sh.enc D (.str) r.1,aW.encs D [.el U.dm] (r.2,()))}
def adn:Cx K:=bp [(59,.bg),(19,.plain),(138,.bg)] [vq M.kL,aaV M.Be,HV M.qo] []
theorem aso:aP adn:=aV ar _ (af x7 (af apQ (af NA aA)))
theorem T9:ax (MI (M.sf)):=aX (cx:=adn) true aso Tryz.func96 hq ⟨MO,fun x=>(x.1.1,x.2.1)⟩ (fun x=>by kernel_rfl)
def asq(y:(List M.ai)×Int×Bool×(List M.az)){R:Type}(k:KT R):R:=match y with|a0=>kk k (Ex.exit 0) aax (((),()),((a0.1,(a0.2.1,(a0.2.2.1,()))),((),(a0.2.2.2,()))))
def asr:List (cz K ((List M.ai)×Int×Bool×(List M.az))):=[⟨(Ex.exit 0),aax,fun x=>(x.2.1.1,x.2.1.2.1,x.2.1.2.2.1,x.2.2.2.1)⟩]
def ado:bE K:=bJ D false 35 2 [0,3] [3] aay (fun x=>M.mL ad x.2.1 x.2.2.2.1) asq
def adp(m:M.aD->Option ((List M.az)×M.aD)):aG K:={f:=221,sh:=mZ,R:=(List M.az)×M.aD,run:=fun x=>m x.2.1,dflt:=default,out:=fun r=>(Sh.enc D (.an U.cY) r.1,aW.encs D [.el U.dm] (r.2,()))}
def Ii:Cx K:=bp [(94,.bg),(97,.bg),(95,.bg),(187,.bg),(225,.bg)] [mX M.dE,me M.dJ,pz M.fR,jP M.sj,CL M.jJ] [(5,ado)]
theorem adq:aP Ii:=aV ar _ (af nQ (af mY (af qU (af NJ (af Ic aA)))))
theorem ass:bF Ii (bq (bI Tryz.f221) 0) ado:=lk (cx:=Ii) (sh:=aay) (run:=fun n x=>M.mL n x.2.1 x.2.2.2.1) (bG:=asr) adq (fun m x=>by kernel_rfl) (af ⟨bL,fun _ _ _=>rfl⟩ aA)
theorem ast:ax (adp (M.zW)):=aX (cx:=Ii) true adq Tryz.func221 (hl1 ass) ⟨⟨[.an U.cY],[.el U.dm]⟩,fun x=>(x.1.1,x.2.1)⟩ (fun x=>by kernel_rfl)
def adr(m:(List UInt8)->M.aD->Option (M.ah×M.aD)):aG K:={f:=185,sh:=Hl,R:=M.ah×M.aD,run:=fun x=>m x.1.2.1 x.2.1,dflt:=default,out:=fun r=>(Sh.enc D (.el U.Item) r.1,aW.encs D [.el U.dm] (r.2,()))}
def ads:Cx K:=bp [(97,.bg),(94,.bg),(221,.bg),(187,.bg)] [me M.dJ,mX M.dE,adp M.zW,jP M.sj] []
theorem asu:aP ads:=aV ar _ (af mY (af nQ (af ast (af NJ aA))))
theorem asv:ax (adr (M.zX)):=aX (cx:=ads) true asu Tryz.func185 hq ⟨MY,fun x=>(x.1.1,x.2.1)⟩ (fun x=>by kernel_rfl)
def NK(m:M.aD->Option (M.bc×M.aD)):aG K:={f:=141,sh:=mZ,R:=M.bc×M.aD,run:=fun x=>m x.2.1,dflt:=default,out:=fun r=>(Sh.enc D (.el U.Path) r.1,aW.encs D [.el U.dm] (r.2,()))}
def adt:Cx K:=bp [(95,.bg),(97,.bg),(96,.bg)] [pz M.fR,me M.dJ,MI M.sf] []
theorem asw:aP adt:=aV ar _ (af qU (af mY (af T9 aA)))
theorem adu:ax (NK (M.lD)):=aX (cx:=adt) true asw Tryz.func141 hq ⟨⟨[.el U.Path],[.el U.dm]⟩,fun x=>(x.1.1,x.2.1)⟩ (fun x=>by kernel_rfl)
def asx(y:(List M.ai)×Int×Bool×Int×(List UInt8)×Int×(List UInt8)×Bool×(List UInt8)×(List UInt8)×(List UInt8)×Int×(List UInt8)×Int×(List UInt8)×Bool×(List UInt8)×(List UInt8)×(List UInt8)×(List (List UInt8))×(List M.aa)×(List M.az)×(List M.aM)×(List (List UInt8))×(List M.aa)×(List M.az)×(List M.aM)){R:Type}(k:KT R):R:=match y with|a0=>kk k (Ex.exit 0) aaz (((),((),())),((a0.1,(a0.2.1,(a0.2.2.1,()))),((a0.2.2.2.1,(a0.2.2.2.2.1,(a0.2.2.2.2.2.1,(a0.2.2.2.2.2.2.1,((),((),((),(a0.2.2.2.2.2.2.2.1,(a0.2.2.2.2.2.2.2.2.1,(a0.2.2.2.2.2.2.2.2.2.1,(a0.2.2.2.2.2.2.2.2.2.2.1,((),())))))))))))),((a0.2.2.2.2.2.2.2.2.2.2.2.1,(a0.2.2.2.2.2.2.2.2.2.2.2.2.1,(a0.2.2.2.2.2.2.2.2.2.2.2.2.2.1,(a0.2.2.2.2.2.2.2.2.2.2.2.2.2.2.1,((),((),((),(a0.2.2.2.2.2.2.2.2.2.2.2.2.2.2.2.1,(a0.2.2.2.2.2.2.2.2.2.2.2.2.2.2.2.2.1,(a0.2.2.2.2.2.2.2.2.2.2.2.2.2.2.2.2.2.1,(a0.2.2.2.2.2.2.2.2.2.2.2.2.2.2.2.2.2.2.1,((),())))))))))))),((),((),((),((),((),((),((),((),(a0.2.2.2.2.2.2.2.2.2.2.2.2.2.2.2.2.2.2.2.1,(a0.2.2.2.2.2.2.2.2.2.2.2.2.2.2.2.2.2.2.2.2.1,(a0.2.2.2.2.2.2.2.2.2.2.2.2.2.2.2.2.2.2.2.2.2.1,(a0.2.2.2.2.2.2.2.2.2.2.2.2.2.2.2.2.2.2.2.2.2.2.1,(a0.2.2.2.2.2.2.2.2.2.2.2.2.2.2.2.2.2.2.2.2.2.2.2.1,(a0.2.2.2.2.2.2.2.2.2.2.2.2.2.2.2.2.2.2.2.2.2.2.2.2.1,(a0.2.2.2.2.2.2.2.2.2.2.2.2.2.2.2.2.2.2.2.2.2.2.2.2.2.1,(a0.2.2.2.2.2.2.2.2.2.2.2.2.2.2.2.2.2.2.2.2.2.2.2.2.2.2,()))))))))))))))))))))
def asy:List (cz K ((List M.ai)×Int×Bool×Int×(List UInt8)×Int×(List UInt8)×Bool×(List UInt8)×(List UInt8)×(List UInt8)×Int×(List UInt8)×Int×(List UInt8)×Bool×(List UInt8)×(List UInt8)×(List UInt8)×(List (List UInt8))×(List M.aa)×(List M.az)×(List M.aM)×(List (List UInt8))×(List M.aa)×(List M.az)×(List M.aM))):=[⟨(Ex.exit 0),aaz,fun x=>(x.2.1.1,x.2.1.2.1,x.2.1.2.2.1,x.2.2.1.1,x.2.2.1.2.1,x.2.2.1.2.2.1,x.2.2.1.2.2.2.1,x.2.2.1.2.2.2.2.2.2.2.1,x.2.2.1.2.2.2.2.2.2.2.2.1,x.2.2.1.2.2.2.2.2.2.2.2.2.1,x.2.2.1.2.2.2.2.2.2.2.2.2.2.1,x.2.2.2.1.1,x.2.2.2.1.2.1,x.2.2.2.1.2.2.1,x.2.2.2.1.2.2.2.1,x.2.2.2.1.2.2.2.2.2.2.2.1,x.2.2.2.1.2.2.2.2.2.2.2.2.1,x.2.2.2.1.2.2.2.2.2.2.2.2.2.1,x.2.2.2.1.2.2.2.2.2.2.2.2.2.2.1,x.2.2.2.2.2.2.2.2.2.2.2.2.1,x.2.2.2.2.2.2.2.2.2.2.2.2.2.1,x.2.2.2.2.2.2.2.2.2.2.2.2.2.2.1,x.2.2.2.2.2.2.2.2.2.2.2.2.2.2.2.1,x.2.2.2.2.2.2.2.2.2.2.2.2.2.2.2.2.1,x.2.2.2.2.2.2.2.2.2.2.2.2.2.2.2.2.2.1,x.2.2.2.2.2.2.2.2.2.2.2.2.2.2.2.2.2.2.1,x.2.2.2.2.2.2.2.2.2.2.2.2.2.2.2.2.2.2.2.1)⟩]
def adv:bE K:=bJ D false 39 11 [0,2,3] [2,3] aaA (fun x=>M.lE x.2.2.1.1 x.2.2.1.2.1 x.2.2.1.2.2.1 x.2.2.1.2.2.2.1 x.2.2.1.2.2.2.2.2.2.2.1 x.2.2.1.2.2.2.2.2.2.2.2.1 x.2.2.1.2.2.2.2.2.2.2.2.2.1 x.2.2.1.2.2.2.2.2.2.2.2.2.2.1 x.2.2.2.1.1 x.2.2.2.1.2.1 x.2.2.2.1.2.2.1 x.2.2.2.1.2.2.2.1 x.2.2.2.1.2.2.2.2.2.2.2.1 x.2.2.2.1.2.2.2.2.2.2.2.2.1 x.2.2.2.1.2.2.2.2.2.2.2.2.2.1 x.2.2.2.1.2.2.2.2.2.2.2.2.2.2.1 x.2.2.2.2.2.2.2.2.2.2.2.2.1 x.2.2.2.2.2.2.2.2.2.2.2.2.2.1 x.2.2.2.2.2.2.2.2.2.2.2.2.2.2.1 x.2.2.2.2.2.2.2.2.2.2.2.2.2.2.2.1 x.2.2.2.2.2.2.2.2.2.2.2.2.2.2.2.2.1 x.2.2.2.2.2.2.2.2.2.2.2.2.2.2.2.2.2.1 x.2.2.2.2.2.2.2.2.2.2.2.2.2.2.2.2.2.2.1 ad x.2.1 x.2.2.2.2.2.2.2.2.2.2.2.2.2.2.2.2.2.2.2.1) asx
def adw(m:M.aD->Option (M.ah×M.aD)):aG K:={f:=188,sh:=mZ,R:=M.ah×M.aD,run:=fun x=>m x.2.1,dflt:=default,out:=fun r=>(Sh.enc D (.el U.Item) r.1,aW.encs D [.el U.dm] (r.2,()))}
def Ij:Cx K:=bp [(141,.bg),(94,.bg),(186,.bg),(97,.bg),(225,.bg)] [NK M.lD,mX M.dE,Ib M.mG,me M.dJ,CL M.jJ] [(4,adv)]
theorem adx:aP Ij:=aV ar _ (af adu (af nQ (af NI (af mY (af Ic aA)))))
theorem asz:bF Ij (bq (bI Tryz.f188) 0) adv:=lk (cx:=Ij) (sh:=aaA) (run:=fun n x=>M.lE x.2.2.1.1 x.2.2.1.2.1 x.2.2.1.2.2.1 x.2.2.1.2.2.2.1 x.2.2.1.2.2.2.2.2.2.2.1 x.2.2.1.2.2.2.2.2.2.2.2.1 x.2.2.1.2.2.2.2.2.2.2.2.2.1 x.2.2.1.2.2.2.2.2.2.2.2.2.2.1 x.2.2.2.1.1 x.2.2.2.1.2.1 x.2.2.2.1.2.2.1 x.2.2.2.1.2.2.2.1 x.2.2.2.1.2.2.2.2.2.2.2.1 x.2.2.2.1.2.2.2.2.2.2.2.2.1 x.2.2.2.1.2.2.2.2.2.2.2.2.2.1 x.2.2.2.1.2.2.2.2.2.2.2.2.2.2.1 x.2.2.2.2.2.2.2.2.2.2.2.2.1 x.2.2.2.2.2.2.2.2.2.2.2.2.2.1 x.2.2.2.2.2.2.2.2.2.2.2.2.2.2.1 x.2.2.2.2.2.2.2.2.2.2.2.2.2.2.2.1 x.2.2.2.2.2.2.2.2.2.2.2.2.2.2.2.2.1 x.2.2.2.2.2.2.2.2.2.2.2.2.2.2.2.2.2.1 x.2.2.2.2.2.2.2.2.2.2.2.2.2.2.2.2.2.2.1 n x.2.1 x.2.2.2.2.2.2.2.2.2.2.2.2.2.2.2.2.2.2.2.1) (bG:=asy) adx (fun m x=>by kernel_rfl) (af ⟨bL,fun _ _ _=>rfl⟩ aA)
theorem asA:ax (adw (M.zZ)):=aX (cx:=Ij) true adx Tryz.func188 (hl1 asz) ⟨MY,fun x=>(x.1.1,x.2.1)⟩ (fun x=>by kernel_rfl)
def ady(m:M.aD->Option (M.ah×M.aD)):aG K:={f:=140,sh:=mZ,R:=M.ah×M.aD,run:=fun x=>m x.2.1,dflt:=default,out:=fun r=>(Sh.enc D (.el U.Item) r.1,aW.encs D [.el U.dm] (r.2,()))}
def adz:Cx K:=bp [(95,.bg),(97,.bg),(185,.bg),(186,.bg),(94,.bg),(187,.bg),(188,.bg)] [pz M.fR,me M.dJ,adr M.zX,mX M.dE,Ib M.mG,jP M.sj,adw M.zZ] []
theorem asB:aP adz:=aV ar _ (af qU (af mY (af asv (af nQ (af NI (af NJ (af asA aA)))))))
theorem asC:ax (ady (M.Aa)):=aX (cx:=adz) true asB Tryz.func140 hq ⟨MY,fun x=>(x.1.1,x.2.1)⟩ (fun x=>by kernel_rfl)
def asD(y:(List M.ai)×Int×Bool×(List UInt8)×(List UInt8)×(List M.ah)×(List M.ah)){R:Type}(k:KT R):R:=match y with|a0=>kk k (Ex.exit 0) aaB (((),((),())),((a0.1,(a0.2.1,(a0.2.2.1,()))),((a0.2.2.2.1,((),())),((a0.2.2.2.2.1,((),())),((),((),(a0.2.2.2.2.2.1,(a0.2.2.2.2.2.2,()))))))))
def asE:List (cz K ((List M.ai)×Int×Bool×(List UInt8)×(List UInt8)×(List M.ah)×(List M.ah))):=[⟨(Ex.exit 0),aaB,fun x=>(x.2.1.1,x.2.1.2.1,x.2.1.2.2.1,x.2.2.1.1,x.2.2.2.1.1,x.2.2.2.2.2.2.1,x.2.2.2.2.2.2.2.1)⟩]
def adA:bE K:=bJ D false 34 5 [0,2,3] [2,3] Ua (fun x=>M.so x.2.2.1.1 x.2.2.2.1.1 x.2.2.2.2.2.2.1 ad x.2.1 x.2.2.2.2.2.2.2.1) asD
def TY(m:M.aD->Option (M.aE×M.aD)):aG K:={f:=98,sh:=mZ,R:=M.aE×M.aD,run:=fun x=>m x.2.1,dflt:=default,out:=fun r=>(Sh.enc D (.el U.cD) r.1,aW.encs D [.el U.dm] (r.2,()))}
def Ik:Cx K:=bp [(95,.bg),(94,.bg),(97,.bg),(140,.bg)] [pz M.fR,mX M.dE,me M.dJ,ady M.Aa] [(3,adA)]
theorem adB:aP Ik:=aV ar _ (af qU (af nQ (af mY (af asC aA))))
theorem asF:bF Ik (bq (bI Tryz.f98) 0) adA:=lk (cx:=Ik) (sh:=Ua) (run:=fun n x=>M.so x.2.2.1.1 x.2.2.2.1.1 x.2.2.2.2.2.2.1 n x.2.1 x.2.2.2.2.2.2.2.1) (bG:=asE) adB (fun m x=>by kernel_rfl) (af ⟨bL,fun _ _ _=>rfl⟩ aA)
theorem aky:ax (TY (M.xm)):=aX (cx:=Ik) true adB Tryz.func98 (hl1 asF) ⟨⟨[.el U.cD],[.el U.dm]⟩,fun x=>(x.1.1,x.2.1)⟩ (fun x=>by kernel_rfl)
def M3(m:Option ((List (List UInt8)))):aG K:={f:=62,sh:=⟨[],[]⟩,R:=(List (List UInt8)),run:=fun x=>m,dflt:=default,out:=fun r=>(Sh.enc D (.an U.str) r,aW.encs D [] ())}
theorem WJ:ax (M3 (M.jC)):=aX (cx:=gG) true gX Tryz.func62 hq ⟨yp,fun x=>x.1.1⟩ (fun x=>by kernel_rfl)
def asG(y:M.aD×(List UInt8)×(List UInt8)×M.aH×(List M.aH)×(List M.aH)){R:Type}(k:KT R):R:=match y with|a0=>kk k (Ex.exit 2) Ue (((),((),((),((),())))),(a0.1,((a0.2.1,((),())),((a0.2.2.1,((),())),(a0.2.2.2.1,((),((),(a0.2.2.2.2.1,(a0.2.2.2.2.2,())))))))))
def asH:List (cz K (M.aD×(List UInt8)×(List UInt8)×M.aH×(List M.aH)×(List M.aH))):=[⟨(Ex.exit 2),Ue,fun x=>(x.2.1,x.2.2.1.1,x.2.2.2.1.1,x.2.2.2.2.1,x.2.2.2.2.2.2.2.1,x.2.2.2.2.2.2.2.2.1)⟩]
def adC:bE K:=bJ D false 71 6 [0,2,3,4,5] [0,2,3,4] Ug (fun x=>M.kj x.2.2.1.1 x.2.2.2.1.1 x.2.2.2.2.2.2.2.1 x.2.2.2.2.2.2.2.2.1 ad x.1.2.2.2.2.1 x.2.1 x.2.2.2.2.1) asG
def asI(y:(List M.ai)×Int×Bool×(List UInt8)×(List UInt8)×(List M.aH)×(List M.aH)){R:Type}(k:KT R):R:=match y with|a0=>kk k (Ex.exit 0) Ui (((),((),())),((a0.1,(a0.2.1,(a0.2.2.1,()))),((a0.2.2.2.1,((),())),((a0.2.2.2.2.1,((),())),((),((),(a0.2.2.2.2.2.1,(a0.2.2.2.2.2.2,()))))))))
def asJ:List (cz K ((List M.ai)×Int×Bool×(List UInt8)×(List UInt8)×(List M.aH)×(List M.aH))):=[⟨(Ex.exit 0),Ui,fun x=>(x.2.1.1,x.2.1.2.1,x.2.1.2.2.1,x.2.2.1.1,x.2.2.2.1.1,x.2.2.2.2.2.2.1,x.2.2.2.2.2.2.2.1)⟩]
def adD:bE K:=bJ D false 71 5 [0,2,3] [2,3] Uz (fun x=>M.qC ad x.2.1 x.2.2.1.1 x.2.2.2.1.1 x.2.2.2.2.2.2.1 x.2.2.2.2.2.2.2.1) asI
def TZ(m:M.aD->Option (M.aJ×M.aD)):aG K:={f:=99,sh:=mZ,R:=M.aJ×M.aD,run:=fun x=>m x.2.1,dflt:=default,out:=fun r=>(Sh.enc D (.el U.cX) r.1,aW.encs D [.el U.dm] (r.2,()))}
def yw:Cx K:=bp [(95,.bg),(94,.bg),(97,.bg),(62,.jH),(141,.bg)] [pz M.fR,mX M.dE,me M.dJ,M3 M.jC,NK M.lD] [(7,adC),(3,adD)]
theorem NL:aP yw:=aV ar _ (af qU (af nQ (af mY (af WJ (af adu aA)))))
theorem asK:bF yw (bq (bq (bI Tryz.f99) 0) 0) adC:=lk (cx:=yw) (sh:=Ug) (run:=fun n x=>M.kj x.2.2.1.1 x.2.2.2.1.1 x.2.2.2.2.2.2.2.1 x.2.2.2.2.2.2.2.2.1 n x.1.2.2.2.2.1 x.2.1 x.2.2.2.2.1) (bG:=asH) NL (fun m x=>by kernel_rfl) (af ⟨bL,fun _ _ _=>rfl⟩ aA)
theorem asL:bF yw (bq (bI Tryz.f99) 0) adD:=lk (cx:=yw) (sh:=Uz) (run:=fun n x=>M.qC n x.2.1 x.2.2.1.1 x.2.2.2.1.1 x.2.2.2.2.2.2.1 x.2.2.2.2.2.2.2.1) (bG:=asJ) NL (fun m x=>by kernel_rfl) (af ⟨bL,fun _ _ _=>rfl⟩ aA) (hl:=(bP 1 (by kernel_rfl) (bQ (.mk (by kernel_rfl) asK))))
theorem akz:ax (TZ (M.uU)):=aX (cx:=yw) true NL Tryz.func99 (hl1 asL) ⟨⟨[.el U.cX],[.el U.dm]⟩,fun x=>(x.1.1,x.2.1)⟩ (fun x=>by kernel_rfl)
def T0:bE K:=bJ D false 63 7 [0,2,3] [2,3] UI (fun x=>M.jN x.2.2.1.1 x.2.2.1.2.1 x.2.2.2.1.1 x.2.2.2.1.2.1 x.2.2.2.2.2.2.2.2.1 x.2.2.2.2.2.2.2.2.2.1 ad x.2.1 x.2.2.2.2.2.2.2.2.2.2.1 x.2.2.2.2.2.2.2.2.2.2.2.1) ac5
def Uc(m:M.aD->Option (M.aj×M.aD)):aG K:={f:=58,sh:=mZ,R:=M.aj×M.aD,run:=fun x=>m x.2.1,dflt:=default,out:=fun r=>(Sh.enc D (.el U.ba) r.1,aW.encs D [.el U.dm] (r.2,()))}
def Fp:Cx K:=bp [(94,.bg),(95,.bg),(96,.bg),(59,.bg),(97,.bg),(98,.bg),(99,.bg)] [mX M.dE,pz M.fR,MI M.sf,vq M.kL,me M.dJ,TY M.xm,TZ M.uU] [(6,T0)]
theorem T8:aP Fp:=aV ar _ (af nQ (af qU (af T9 (af x7 (af mY (af aky (af akz aA)))))))
theorem akA:bF Fp (bq (bI Tryz.f58) 0) T0:=lk (cx:=Fp) (sh:=UI) (run:=fun n x=>M.jN x.2.2.1.1 x.2.2.1.2.1 x.2.2.2.1.1 x.2.2.2.1.2.1 x.2.2.2.2.2.2.2.2.1 x.2.2.2.2.2.2.2.2.2.1 n x.2.1 x.2.2.2.2.2.2.2.2.2.2.1 x.2.2.2.2.2.2.2.2.2.2.2.1) (bG:=Ub) T8 (fun m x=>by kernel_rfl) (af ⟨bL,fun _ _ _=>rfl⟩ aA)
theorem akB:ax (Uc (M.xn)):=aX (cx:=Fp) true T8 Tryz.func58 (hl1 akA) ⟨⟨[.el U.ba],[.el U.dm]⟩,fun x=>(x.1.1,x.2.1)⟩ (fun x=>by kernel_rfl)
def Ud(m:M.aM->Option ((List UInt8))):aG K:=cS 142 ZO (fun x=>m x.1.1)
theorem akC:ax (Ud (M.Af)):=aX (cx:=gG) true gX Tryz.func142 hq ⟨eY,fun x=>x.1.1⟩ (fun x=>by kernel_rfl)
def akD(y:Int×M.aE×(List (List UInt8))×(List (List UInt8))){R:Type}(k:KT R):R:=match y with|a0=>kk k (Ex.exit 3) UP (((),((),((),(a0.1,())))),(a0.2.1,((),((),((),(a0.2.2.1,(a0.2.2.2,())))))))
