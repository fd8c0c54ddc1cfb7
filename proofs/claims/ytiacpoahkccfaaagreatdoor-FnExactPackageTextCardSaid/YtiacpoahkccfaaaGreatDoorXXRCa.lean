/-
  Part of the proof of the claim.
-/
import Derived.Test.YtiacpoahkccfaaaGreatDoorXXRM
import Derived.Test.YtiacpoahkccfaaaGreatDoorXXHdA
import Derived.Test.YtiacpoahkccfaaaGreatDoorXXHdI
import Derived.Test.YtiacpoahkccfaaaGreatDoorXXHdJ2
import Derived.Test.YtiacpoahkccfaaaGreatDoorXXHdV
import Derived.Test.YtiacpoahkccfaaaGreatDoorXWor
import Derived.Test.YtiacpoahkccfaaaGreatDoorProg
set_option linter.unusedVariables false
set_option maxRecDepth 100000
open Go Go.Proofs
open Go.V
noncomputable section
abbrev iq0:Go.V.Sh Go.V.K:=.int .i64
abbrev iq2:=Go.V.aL Go.V.K
abbrev zs0:iq2:=⟨[.bool],[]⟩
abbrev zs1:iq2:=⟨[.any],[]⟩
abbrev zs2:iq2:=⟨[.str],[]⟩
abbrev fM:iq2:=⟨[iq0],[]⟩
abbrev YS:iq2:=⟨[.any,iq0],[]⟩
abbrev YT:iq2:=⟨[iq0,.any],[]⟩
abbrev m8:iq2:=⟨[.ptr 0 0],[.el U.dm]⟩
abbrev nZ:iq2:=⟨[.el U.bo],[]⟩
abbrev rl:iq2:=⟨[.str,iq0],[]⟩
abbrev rm:iq2:=⟨[.str,iq0,iq0],[]⟩
abbrev tH:iq2:=⟨[.ptr 0 0],[.el U.parser]⟩
abbrev G6:iq2:=⟨[],[.box [.an U.Token,iq0,.bool],.box [.ptr 0 0],.box [iq0,.str,iq0,.str,.own 7,.own 8,.own 9,.bool,.str,.str,.str,.own 10],.dead,.dead,.dead,.dead,.arr U.str,.arr U.Term,.arr U.cZ,.arr U.dc]⟩
abbrev tq:iq2:=⟨[.ptr 0 0,.str,iq0],[.el U.bo]⟩
abbrev yK:iq2:=⟨[.int .u8],[]⟩
abbrev yw:iq2:=⟨[.an U.str],[]⟩
abbrev yL:iq2:=⟨[.ptr 0 0],[.box [.str,iq0,iq0,.own 2],.dead,.arr U.Token]⟩
abbrev yM:iq2:=⟨[.str],[.el U.parser]⟩
abbrev yA:iq2:=⟨[.str],[.dead]⟩
abbrev yB:iq2:=⟨[.any,.any,.bool],[.dead,.dead]⟩
abbrev FK:iq2:=⟨[.bool],[.dead,.dead]⟩
abbrev FM:iq2:=⟨[.any],[.dead,.dead]⟩
abbrev FA:iq2:=⟨[.an U.str,iq0,iq0],[]⟩
abbrev G7:iq2:=⟨[],[.box [.str,iq0,iq0,.own 2],.dead,.arr U.Token]⟩
abbrev Gi:iq2:=⟨[.any],[.dead]⟩
abbrev G8:iq2:=⟨[.ptr 0 0,.str],[.el U.dm]⟩
abbrev G9:iq2:=⟨[.ptr 0 0,.str],[.el U.parser]⟩
abbrev Ha:iq2:=⟨[],[.box [.an U.Token,iq0,.bool],.box [iq0,.str,.own 6,.own 7],.box [.ptr 0 0],.box [iq0],.dead,.dead,.arr U.str,.arr U.Term]⟩
abbrev He:iq2:=⟨[],[.box [.an U.Token,iq0,.bool],.box [.ptr 0 0],.box [iq0,.str,.own 7,.own 8],.box [.fn 197 [.ptr 2 0,.ptr 1 0,.ptr 6 0]],.dead,.dead,.box [iq0],.arr U.str,.arr U.Term]⟩
abbrev Hg:iq2:=⟨[.ptr 0 0,.ptr 1 0,.ptr 2 0],[.el U.parser,.box [.str,.own 5],.box [.str,.own 6],.dead,.dead,.arr U.Item,.arr U.Item]⟩
abbrev Hh:iq2:=⟨[.ptr 0 0,.ptr 1 0,.ptr 2 0],[.el U.parser,.box [.str,.own 5],.box [.str,.own 6],.dead,.dead,.arr U.dr,.arr U.dr]⟩
abbrev YU:iq2:=⟨[.ptr 1 0,.ptr 2 0],[.box [.an U.Token,iq0,.bool],.box [.str,.str,.own 7,.own 8],.box [.str,.str,.own 9,.own 10],.dead,.dead,.dead,.dead,.arr U.cJ,.arr U.cY,.arr U.cJ,.arr U.cY]⟩
abbrev Fv:iq2:=⟨[.el U.dc],[]⟩
abbrev Hj:iq2:=⟨[.ptr 0 0,.own 6,.own 7,.ptr 3 0,.own 8,.own 9,.an U.cJ,iq0,iq0,.an U.Item,iq0,iq0],[.el U.bo,.dead,.dead,.el U.cJ,.dead,.dead,.arr U.str,.arr U.str,.arr U.str,.arr U.str]⟩
abbrev YV:iq2:=⟨[.any,.any,.any,.bool],[.dead,.dead,.dead,.dead,.dead]⟩
abbrev YW:iq2:=⟨[.ptr 0 0,.own 3,.own 4,.any],[.el U.bo,.dead,.dead,.arr U.str,.arr U.str]⟩
abbrev Fz:iq2:=⟨[.own 3,.own 4],[.dead,.dead,.dead,.arr U.str,.arr U.str]⟩
abbrev FB:iq2:=⟨[.ptr 0 0,.own 3,.own 4,iq0],[.el U.bo,.dead,.dead,.arr U.str,.arr U.str]⟩
abbrev FI:iq2:=⟨[.ptr 0 0,.ptr 1 0,iq0],[.el U.Term,.el U.Term]⟩
abbrev FV:iq2:=⟨[.el U.Path],[]⟩
abbrev FW:iq2:=⟨[.el U.Item],[]⟩
abbrev FX:iq2:=⟨[.ptr 0 0,.ptr 1 0,.an U.cJ,iq0,iq0],[.el U.bo,.box [.np 1,.own 3],.dead,.arr U.u8]⟩
abbrev FY:iq2:=⟨[.ptr 0 0,.own 3,.an U.cY,iq0,iq0],[.box [.np 0,.own 4],.dead,.dead,.arr U.str,.arr U.u8]⟩
abbrev F8:iq2:=⟨[.any,.bool],[.dead]⟩
abbrev Ge:iq2:=⟨[.any,.any,.bool],[.dead]⟩
abbrev Gf:iq2:=⟨[.ptr 0 0,iq0,.any],[.el U.bo]⟩
abbrev Gg:iq2:=⟨[.ptr 0 0,iq0,iq0],[.el U.bo]⟩
abbrev Gh:iq2:=⟨[.ptr 0 0,iq0],[.el U.bo]⟩
abbrev Gj:iq2:=⟨[.ptr 0 0,.str,iq0],[.el U.Item]⟩
abbrev Gk:iq2:=⟨[.ptr 0 0,.str,iq0,iq0],[.el U.bo]⟩
abbrev Gl:iq2:=⟨[.ptr 0 0,.ptr 1 0,iq0],[.el U.Item,.el U.Item]⟩
abbrev Gm:iq2:=⟨[.any,.any,.any,.bool],[.dead,.dead]⟩
abbrev Gn:iq2:=⟨[.ptr 0 0,.ptr 1 0,iq0,.any],[.el U.bo,.el U.bo]⟩
abbrev Gp:iq2:=⟨[.ptr 0 0,.ptr 1 0,iq0,iq0],[.el U.bo,.el U.bo]⟩
abbrev Gq:iq2:=⟨[.ptr 0 0,.ptr 1 0,iq0],[.el U.bo,.el U.bo]⟩
abbrev LX:iq2:=⟨[.an U.str,iq0],[]⟩
abbrev MJ:iq2:=⟨[.bD []],[.el U.dm]⟩
abbrev MK:iq2:=⟨[.str],[.el U.dm]⟩
abbrev ML:iq2:=⟨[.bD []],[.el U.parser,.box [iq0,.str,.own 6,.own 7],.box [.ptr 0 0],.box [iq0],.dead,.dead,.arr U.str,.arr U.Term]⟩
abbrev MM:iq2:=⟨[.el U.Item],[.el U.dm]⟩
abbrev L0:iq2:=⟨[.el U.Term,iq0],[]⟩
abbrev L1:iq2:=⟨[.el U.Term,.el U.Term],[]⟩
abbrev MA:iq2:=⟨[.el U.Item,.el U.Item],[]⟩
abbrev MB:iq2:=⟨[.el U.bo,.el U.bo],[]⟩
abbrev YX:iq2:=⟨[.an U.str,.an U.str,iq0],[]⟩
abbrev YY:iq2:=⟨[.any,.any,.any,.any,iq0],[]⟩
abbrev YZ:iq2:=⟨[.str,iq0,iq0,iq0,.any],[]⟩
abbrev Y0:iq2:=⟨[.str,iq0,iq0,iq0,iq0],[]⟩
abbrev Y1:iq2:=⟨[iq0,.an U.str,iq0,iq0],[]⟩
abbrev Y2:iq2:=⟨[.an U.str,.str,iq0,iq0],[]⟩
abbrev Y3:iq2:=⟨[.an U.str,.own 1,iq0],[.dead,.arr U.str]⟩
abbrev Y4:iq2:=⟨[.any,.any,iq0,iq0],[]⟩
abbrev Y5:iq2:=⟨[iq0,iq0,.any,.any],[]⟩
abbrev Y6:iq2:=⟨[.any,.any,.own 2,iq0,iq0],[.dead,.dead,.arr U.Token]⟩
abbrev Y7:iq2:=⟨[.own 1,iq0,.any,.any,.any],[.dead,.arr U.Token]⟩
abbrev Y8:iq2:=⟨[.str,.own 1,iq0,iq0],[.dead,.arr U.Token]⟩
abbrev Y9:iq2:=⟨[.bD [.an U.Token,iq0,iq0]],[]⟩
abbrev Za:iq2:=⟨[.any,.dn,iq0,iq0],[.dead,.dead,.dead]⟩
abbrev Zb:iq2:=⟨[.ptr 0 0,.any,.any,.any],[.box [.str,iq0,iq0,.own 2],.dead,.arr U.Token]⟩
abbrev Zc:iq2:=⟨[.str,.ptr 0 0],[.box [.str,iq0,iq0,.own 2],.dead,.arr U.Token]⟩
abbrev Zd:iq2:=⟨[.str,.own 1,iq0],[.dead,.arr U.str]⟩
abbrev Ze:iq2:=⟨[.ptr 0 0,iq0,.fn 197 [.ptr 1 0,.ptr 2 0,.ptr 3 0],iq0],[.el U.parser,.box [iq0,.str,.own 6,.own 7],.box [.ptr 0 0],.box [iq0],.dead,.dead,.arr U.str,.arr U.Term]⟩
abbrev Zf:iq2:=⟨[],[.box [iq0,.str,.own 3,.own 4],.dead,.dead,.arr U.str,.arr U.Term]⟩
abbrev Zg:iq2:=⟨[.ptr 0 0],[.box [iq0,.str,.own 3,.own 4],.dead,.dead,.arr U.str,.arr U.Term]⟩
abbrev Zh:iq2:=⟨[.ptr 0 0,.ptr 1 0,.fn 197 [.ptr 1 0,.ptr 2 0,.ptr 3 0]],[.el U.parser,.box [iq0,.str,.own 4,.own 5],.box [.ptr 0 0],.box [iq0],.arr U.str,.arr U.Term]⟩
abbrev Zi:iq2:=⟨[.ptr 0 0,iq0,.fn 199 [.ptr 1 0,.ptr 2 0,.ptr 3 0],iq0],[.el U.parser,.box [.ptr 0 0],.box [iq0,.str,.own 7,.own 8],.box [.fn 197 [.ptr 2 0,.ptr 1 0,.ptr 6 0]],.dead,.dead,.box [iq0],.arr U.str,.arr U.Term]⟩
abbrev Zj:iq2:=⟨[.ptr 0 0,.ptr 1 0],[.box [.ptr 2 0],.box [iq0,.str,iq0,.str,.own 3,.own 4,.own 5,.bool,.str,.str,.str,.own 6],.box [.an U.Token,iq0,.bool],.arr U.str,.arr U.Term,.arr U.cZ,.arr U.dc]⟩
abbrev Zk:iq2:=⟨[.bD []],[.box [.ptr 2 0],.box [iq0,.str,iq0,.str,.own 7,.own 8,.own 9,.bool,.str,.str,.str,.own 10],.box [.an U.Token,iq0,.bool],.dead,.dead,.dead,.dead,.arr U.str,.arr U.Term,.arr U.cZ,.arr U.dc]⟩
abbrev Zl:iq2:=⟨[.ptr 0 0,iq0,.fn 192 [.ptr 1 0,.ptr 2 0],iq0],[.el U.parser,.box [.ptr 0 0],.box [iq0,.str,iq0,.str,.own 7,.own 8,.own 9,.bool,.str,.str,.str,.own 10],.dead,.dead,.dead,.dead,.arr U.str,.arr U.Term,.arr U.cZ,.arr U.dc]⟩
abbrev Zm:iq2:=⟨[.bD []],[.el U.parser,.box [.ptr 0 0],.box [iq0,.str,iq0,.str,.own 7,.own 8,.own 9,.bool,.str,.str,.str,.own 10],.dead,.dead,.dead,.dead,.arr U.str,.arr U.Term,.arr U.cZ,.arr U.dc]⟩
abbrev Zn:iq2:=⟨[.ptr 0 0,iq0,.fn 159 [.ptr 1 0,.ptr 2 0],iq0],[.el U.parser,.box [.ptr 0 0],.box [iq0,.str,iq0,.str,.own 7,.own 8,.own 9,.bool,.str,.str,.str,.own 10],.dead,.dead,.dead,.dead,.arr U.str,.arr U.Term,.arr U.cZ,.arr U.dc]⟩
abbrev Zo:iq2:=⟨[],[.box [.an U.Token,iq0,.bool],.box [iq0,.str,.own 4,.own 5],.dead,.dead,.arr U.str,.arr U.Term]⟩
abbrev Zp:iq2:=⟨[.ptr 0 0,.ptr 1 0,iq0],[.el U.dm,.box [iq0,.str,.own 4,.own 5],.dead,.dead,.arr U.str,.arr U.Term]⟩
abbrev Zq:iq2:=⟨[.ptr 1 0,.ptr 2 0],[.box [.an U.Token,iq0,.bool],.box [iq0,.str,.own 7,.own 8],.box [iq0,.str,.own 9,.own 10],.dead,.dead,.dead,.dead,.arr U.str,.arr U.Term,.arr U.str,.arr U.Term]⟩
abbrev Zr:iq2:=⟨[.ptr 0 0,iq0,.ptr 1 0,.ptr 2 0],[.el U.dm,.box [iq0,.str,.own 7,.own 8],.box [iq0,.str,.own 9,.own 10],.dead,.dead,.dead,.dead,.arr U.str,.arr U.Term,.arr U.str,.arr U.Term]⟩
abbrev Zs:iq2:=⟨[.ptr 0 0,.ptr 1 0,.ptr 2 0],[.el U.parser,.box [.str,.str,.own 7,.own 8],.box [.str,.str,.own 9,.own 10],.dead,.dead,.dead,.dead,.arr U.cJ,.arr U.cY,.arr U.cJ,.arr U.cY]⟩
abbrev Zt:iq2:=⟨[.ptr 0 0,.own 6,.own 7,.ptr 3 0,.own 8,.own 9,.an U.cJ,iq0,iq0,.an U.Item,iq0,iq0,.an U.dc,iq0,iq0],[.el U.bo,.dead,.dead,.el U.cJ,.dead,.dead,.arr U.str,.arr U.str,.arr U.str,.arr U.str]⟩
abbrev Zu:iq2:=⟨[.ptr 0 0,.own 6,.own 7,.ptr 3 0,.own 8,.own 9,.an U.cJ,iq0,iq0],[.el U.bo,.dead,.dead,.el U.cJ,.dead,.dead,.arr U.str,.arr U.str,.arr U.str,.arr U.str]⟩
abbrev Zv:iq2:=⟨[.ptr 0 0,.own 3,.own 4,.an U.cJ,iq0,iq0],[.el U.bo,.dead,.dead,.arr U.str,.arr U.str]⟩
abbrev Zw:iq2:=⟨[.own 2,.own 3],[.dead,.dead,.arr U.str,.arr U.str]⟩
abbrev Zx:iq2:=⟨[.own 2,.own 3,.an U.cY,iq0,iq0],[.dead,.dead,.arr U.str,.arr U.str]⟩
abbrev TX:iq2:=⟨[.bD [.el U.bo,iq0,iq0]],[]⟩
abbrev Zy:iq2:=⟨[.own 2],[.box [.an U.Token,iq0,.bool],.dead,.arr U.cZ]⟩
abbrev Zz:iq2:=⟨[.ptr 0 0,.own 2],[.el U.dm,.dead,.arr U.cZ]⟩
abbrev ZA:iq2:=⟨[.ptr 1 0,.ptr 2 0],[.box [.an U.Token,iq0,.bool],.box [iq0,.str,iq0,.str,.own 11,.own 12,.own 13,.bool,.str,.str,.str,.own 14],.box [iq0,.str,iq0,.str,.own 15,.own 16,.own 17,.bool,.str,.str,.str,.own 18],.dead,.dead,.dead,.dead,.dead,.dead,.dead,.dead,.arr U.str,.arr U.Term,.arr U.cZ,.arr U.dc,.arr U.str,.arr U.Term,.arr U.cZ,.arr U.dc]⟩
abbrev ZB:iq2:=⟨[.ptr 0 0,.ptr 1 0,.ptr 2 0],[.el U.dm,.box [iq0,.str,iq0,.str,.own 11,.own 12,.own 13,.bool,.str,.str,.str,.own 14],.box [iq0,.str,iq0,.str,.own 15,.own 16,.own 17,.bool,.str,.str,.str,.own 18],.dead,.dead,.dead,.dead,.dead,.dead,.dead,.dead,.arr U.str,.arr U.Term,.arr U.cZ,.arr U.dc,.arr U.str,.arr U.Term,.arr U.cZ,.arr U.dc]⟩
abbrev ZC:iq2:=⟨[.ptr 1 0,.ptr 2 0],[.box [.an U.Token,iq0,.bool],.box [.str,.own 5],.box [.str,.own 6],.dead,.dead,.arr U.Item,.arr U.Item]⟩
abbrev ZD:iq2:=⟨[.ptr 0 0,.ptr 1 0,.ptr 2 0],[.el U.dm,.box [.str,.own 5],.box [.str,.own 6],.dead,.dead,.arr U.Item,.arr U.Item]⟩
abbrev S9:iq2:=⟨[.ptr 0 0,.ptr 1 0,.ptr 2 0,.ptr 3 0],[.el U.dm,.box [.str,.own 6],.box [.str,.own 7],.el U.dr,.dead,.dead,.arr U.dr,.arr U.dr]⟩
abbrev Tc:iq2:=⟨[.ptr 0 0,.ptr 1 0,.ptr 2 0,.ptr 3 0,iq0],[.el U.dm,.box [.str,.own 6],.box [.str,.own 7],.el U.dr,.dead,.dead,.arr U.dr,.arr U.dr]⟩
abbrev Td:iq2:=⟨[.ptr 1 0,.ptr 2 0],[.box [.an U.Token,iq0,.bool],.box [.str,.own 5],.box [.str,.own 6],.dead,.dead,.arr U.dr,.arr U.dr]⟩
abbrev Ti:iq2:=⟨[.ptr 0 0,.ptr 1 0,.ptr 2 0],[.el U.dm,.box [.str,.own 5],.box [.str,.own 6],.dead,.dead,.arr U.dr,.arr U.dr]⟩
abbrev Tq:iq2:=⟨[.ptr 0 0,.ptr 1 0,.ptr 2 0],[.el U.dm,.box [.str,.str,.own 7,.own 8],.box [.str,.str,.own 9,.own 10],.dead,.dead,.dead,.dead,.arr U.cJ,.arr U.cY,.arr U.cJ,.arr U.cY]⟩
abbrev TD:iq2:=⟨[.ptr 0 0,.own 4,.own 5,iq0],[.el U.cJ,.dead,.dead,.dead,.arr U.str,.arr U.str]⟩
abbrev TF:iq2:=⟨[.ptr 0 0,.own 4,.own 5,iq0,.ptr 3 0,iq0],[.el U.cJ,.dead,.dead,.el U.Item,.arr U.str,.arr U.str]⟩
abbrev TI:iq2:=⟨[.ptr 0 0,.own 3,.own 4,iq0],[.el U.cJ,.dead,.dead,.arr U.str,.arr U.str]⟩
abbrev TZ:iq2:=⟨[iq0,.ptr 0 0,iq0,iq0],[.el U.Term]⟩
abbrev Uf:iq2:=⟨[.ptr 0 0,.str,iq0],[.el U.Term]⟩
abbrev Um:iq2:=⟨[.ptr 0 0,.ptr 1 0,.any],[.el U.Term,.el U.Term]⟩
abbrev Uu:iq2:=⟨[.an U.str,.an U.str,iq0,iq0],[]⟩
abbrev UB:iq2:=⟨[.an U.Term,.fn 171 [.rp U.i64 0],.an U.Term,iq0,iq0],[]⟩
abbrev UH:iq2:=⟨[.ptr 0 0,.str,.own 2],[.el U.Term,.dead,.arr U.str]⟩
abbrev UJ:iq2:=⟨[iq0,.ptr 0 0,.str,.own 2,.an U.Term,iq0,iq0],[.el U.Term,.dead,.arr U.str]⟩
abbrev UM:iq2:=⟨[.an U.str,.ptr 0 0,.own 2,.an U.str,iq0,iq0],[.el U.Term,.dead,.arr U.str]⟩
abbrev UT:iq2:=⟨[.ptr 0 0,.own 2],[.el U.Item,.dead,.arr U.str]⟩
abbrev UW:iq2:=⟨[.ptr 0 0,.own 2,.an U.dc,iq0,iq0],[.el U.Item,.dead,.arr U.str]⟩
abbrev UY:iq2:=⟨[.ptr 0 0,.own 2,.str],[.el U.Item,.dead,.arr U.str]⟩
abbrev U0:iq2:=⟨[.ptr 0 0,.own 2,.str,.an U.cZ,iq0,iq0],[.el U.Item,.dead,.arr U.str]⟩
abbrev U3:iq2:=⟨[.ptr 0 0,.ptr 1 0,.an U.cJ,iq0,iq0,.an U.Item,iq0,iq0],[.el U.bo,.box [.np 1,.own 3],.dead,.arr U.u8]⟩
abbrev U4:iq2:=⟨[.ptr 0 0,.ptr 1 0],[.el U.bo,.box [.np 1,.own 3],.dead,.arr U.u8]⟩
abbrev U7:iq2:=⟨[.ptr 0 0,.own 3,.an U.cY,iq0,iq0,.an U.dr,iq0,iq0],[.box [.np 0,.own 4],.dead,.dead,.arr U.str,.arr U.u8]⟩
abbrev U8:iq2:=⟨[.ptr 0 0],[.box [.np 0,.own 3],.dead,.dead,.arr U.u8]⟩
abbrev Vd:iq2:=⟨[.an U.dc,.an U.dc,iq0,iq0],[]⟩
abbrev Vh:iq2:=⟨[.el U.cZ,.el U.cZ],[]⟩
abbrev Vk:iq2:=⟨[.an U.cZ,.fn 131 [],.an U.cZ,iq0,iq0],[]⟩
abbrev Vq:iq2:=⟨[.an U.Item,.fn 74 [],.an U.Item,iq0,iq0],[]⟩
abbrev Vw:iq2:=⟨[.an U.cJ,.fn 72 [],.an U.cJ,iq0,iq0],[]⟩
abbrev VA:iq2:=⟨[.an U.dr,.an U.dr,iq0,iq0],[]⟩
abbrev VC:iq2:=⟨[.an U.dr,.an U.dr],[]⟩
abbrev VF:iq2:=⟨[.el U.cY,.el U.cY],[]⟩
abbrev VI:iq2:=⟨[.an U.cY,.fn 76 [],.an U.cY,iq0,iq0],[]⟩
abbrev V9:iq2:=⟨[.ptr 0 0,.ptr 1 0,.any],[.el U.Item,.el U.Item]⟩
abbrev Wg:iq2:=⟨[.ptr 0 0,.ptr 1 0,.any],[.el U.bo,.el U.bo]⟩
abbrev Wu:iq2:=⟨[.an U.Term,iq0,iq0],[]⟩
abbrev WH:iq2:=⟨[.an U.cZ,iq0,iq0],[]⟩
abbrev WO:iq2:=⟨[.an U.dc,iq0,iq0],[]⟩
abbrev WV:iq2:=⟨[.an U.Item,iq0,iq0],[]⟩
abbrev W4:iq2:=⟨[.an U.cJ,iq0,iq0],[]⟩
abbrev Xa:iq2:=⟨[.an U.dr,iq0,iq0],[]⟩
abbrev Xg:iq2:=⟨[.an U.cY,iq0,iq0],[]⟩
abbrev Xm:iq2:=⟨[.an U.Term,.own 1,iq0],[.dead,.tree U.Term]⟩
abbrev Xw:iq2:=⟨[.an U.cZ,.own 1,iq0],[.dead,.tree U.cZ]⟩
abbrev XD:iq2:=⟨[.an U.dc,.own 1,iq0],[.dead,.arr U.dc]⟩
abbrev XJ:iq2:=⟨[.an U.Item,.own 1,iq0],[.dead,.tree U.Item]⟩
abbrev XP:iq2:=⟨[.an U.cJ,.own 1,iq0],[.dead,.tree U.cJ]⟩
abbrev XV:iq2:=⟨[.an U.dr,.own 1,iq0],[.dead,.arr U.dr]⟩
abbrev X1:iq2:=⟨[.an U.cY,.own 1,iq0],[.dead,.tree U.cY]⟩
abbrev X7:iq2:=⟨[.an U.Term,.an U.Term,iq0],[]⟩
abbrev Yh:iq2:=⟨[.an U.cZ,.an U.cZ,iq0],[]⟩
abbrev Yn:iq2:=⟨[.an U.dc,.an U.dc,iq0],[]⟩
abbrev Yt:iq2:=⟨[.an U.Item,.an U.Item,iq0],[]⟩
abbrev Yz:iq2:=⟨[.an U.cJ,.an U.cJ,iq0],[]⟩
abbrev YF:iq2:=⟨[.an U.dr,.an U.dr,iq0],[]⟩
abbrev YL:iq2:=⟨[.an U.cY,.an U.cY,iq0],[]⟩
def MN:Go.TypeId->Option U:=dZ [(2,U.i64),(3,U.i64),(4,U.bool),(5,U.u8),(6,U.u8),(9,U.str),(10,U.str),(11,U.str),(12,U.u64),(21,U.i32),(22,U.tJ),(23,U.tK),(25,U.bo),(31,U.vV),(36,U.tJ),(37,U.tK),(39,U.bo),(53,U.vW),(63,U.vX),(68,U.dm),(70,U.Token),(73,U.parser),(76,U.tL),(78,U.cJ),(80,U.tM),(82,U.cY),(84,U.vY),(85,U.tN),(87,U.Term),(88,U.tO),(90,U.Path),(91,U.tP),(93,U.Item),(95,U.dc),(104,U.vZ),(108,U.v7),(110,U.dr),(111,U.u64),(113,U.tQ),(120,U.tL),(122,U.cJ),(124,U.tM),(126,U.cY),(140,U.mn),(161,U.cZ),(193,U.u64),(201,U.tN),(203,U.Term),(204,U.tO),(205,U.Path),(206,U.tP),(208,U.Item),(211,U.dr),(250,U.i64),(258,U.u32),(265,U.cZ),(267,U.dc),(275,U.u64),(285,U.i64),(324,U.u8),(325,U.u8),(327,U.i32),(328,U.i32)]
def aor:Go.TypeId->List (Option U):=eC [] [(22,[some U.cJ]),(23,[some U.cY]),(25,[none,none,some U.cJ,some U.cY]),(31,[some U.u8]),(36,[some U.cJ]),(37,[some U.cY]),(39,[none,none,some U.cJ,some U.cY]),(53,[some U.bo]),(63,[some U.Token]),(68,[some U.Token,none,none]),(73,[some U.Token,none,none]),(76,[some U.Item]),(78,[none,some U.Item]),(80,[some U.dr]),(82,[none,some U.dr]),(84,[some U.str]),(85,[some U.Term]),(87,[none,none,some U.str,some U.Term]),(88,[some U.cZ]),(91,[some U.dc]),(93,[none,none,none,none,some U.str,some U.Term,some U.cZ,none,none,none,none,some U.dc]),(104,[some U.Path]),(108,[some U.i64]),(113,[some U.u8,none,none]),(120,[some U.Item]),(122,[none,some U.Item]),(124,[some U.dr]),(126,[none,some U.dr]),(140,[none,none,none,some U.Token]),(161,[none,none,none,some U.str,some U.Term]),(166,[none,some U.u8]),(201,[some U.Term]),(203,[none,none,some U.str,some U.Term]),(204,[some U.cZ]),(206,[some U.dc]),(208,[none,none,none,none,some U.str,some U.Term,some U.cZ,none,none,none,none,some U.dc]),(265,[none,none,none,some U.str,some U.Term])]
theorem bp:Tryz.prog.follows .mixedOrders=true:=by kernel_rfl
abbrev az(c:aI K):Prop:=c.Ok D Tryz.prog
abbrev KT(R:Type):=Ex->List (AV K)->List (Ob K)->R
def kk{R:Type}(k:KT R)(e:Ex)(s:aL K)(v:s.T):R:=k e (aL.ma D s v) (aL.mJ D s v)
def cB(f:FuncId)(sh:aL K)(run:sh.T->Option Bool):aI K:={f:=f,sh:=sh,R:=Bool,run:=run,dflt:=default,out:=fun r=>(Sh.enc D (.bool) r,aY.encs D [] ())}
def cI(f:FuncId)(sh:aL K)(run:sh.T->Option Int):aI K:={f:=f,sh:=sh,R:=Int,run:=run,dflt:=default,out:=fun r=>(Sh.enc D (.int .i64) r,aY.encs D [] ())}
def cS(f:FuncId)(sh:aL K)(run:sh.T->Option (List UInt8)):aI K:={f:=f,sh:=sh,R:=List UInt8,run:=run,dflt:=default,out:=fun r=>(Sh.enc D (.str) r,aY.encs D [] ())}
def eZ:Cx K:={P:=Tryz.prog,D:=D,ty:=MN,ny:=aor,mode:=eC .plain [],call:=callOf D [],loop:=dZ []}
def bw(m:List (FuncId×Go.V.Mode))(c:List (aI K))(l:List (Nat×bG K)):Cx K:={eZ with mode:=eC .plain m,call:=callOf D c,loop:=dZ l}
theorem ba{cx:Cx K}(fz:Bool)(hc:aV cx){c:aI K}{fn:Func}(hg:cx.P.funcs[c.f]?=some fn)(hl:∀b,fn.body=some b->jx cx b)(d:zM K cx.D c.R)(he:∀x,Ea cx fz fn (c.sh.ma cx.D x) (c.sh.mJ cx.D x) d.fin=c.run x)(hD:bQ cx.D:=by exact au)(hm:cx.P.follows .mixedOrders=true:=by exact bp)(hn:(fn.name== "runtime.NumGoroutine")=false:=by kernel_rfl)(ho:∀x,([(c.out (d.conv x)).1],(c.out (d.conv x)).2)=(d.sh.ma cx.D x,d.sh.mJ cx.D x):=by exact fun x=>rfl):c.Ok cx.D cx.P:=f9 hD hc hm ⟨hg,hn⟩ hl d ho he
def MO(m:Int->Option Bool):aI K:=cB 150 yK (fun x=>m x.1.1)
def gY:Cx K:=bw [] [] []
theorem ij:aV gY:=aZ au _ acW
theorem ZE:az (MO (M.MP)):=ba (cx:=gY) true ij Tryz.func150 (aS (aN (by kernel_rfl))) ⟨zs0,fun x=>x.1.1⟩ (fun x=>by kernel_rfl)
def MQ(m:Int->Option Bool):aI K:=cB 152 yK (fun x=>m x.1.1)
theorem ZF:az (MQ (M.MR)):=ba (cx:=gY) true ij Tryz.func152 (aS (aN (by kernel_rfl))) ⟨zs0,fun x=>x.1.1⟩ (fun x=>by kernel_rfl)
def pK(y:Int⊕Int){R:Type}(k:KT R):R:=match y with|.inl a0=>kk k Ex.ret YS (((),(a0,())),())|.inr a1=>kk k (Ex.exit 0) YT ((a1,((),())),())
def pM:List (cH K ((Int)⊕Int)):=[⟨Ex.ret,YS,fun x=>.inl x.1.2.1⟩,⟨(Ex.exit 0),YT,fun x=>.inr (x.1.1)⟩]
def ZG:bG K:=bM D false 28 0 [0,1,5] [1,4] FA (fun x=>M.v8 x.1.1 ad x.1.2.1 x.1.2.2.1) pK
def Wy(m:(List (List UInt8))->Int->Option Int):aI K:=cI 248 LX (fun x=>m x.1.1 x.1.2.1)
def Hk:Cx K:=bw [] [] [(5,ZG)]
theorem ZH:aV Hk:=aZ au _ acW
theorem aos:bH Hk (bC (bL Tryz.f248) 0) ZG:=bN (cx:=Hk) (sh:=FA) (run:=fun n x=>M.v8 x.1.1 n x.1.2.1 x.1.2.2.1) (bK:=pM) au ZH bp (aN (by kernel_rfl)) (fun _=>rfl) (fun m x=>by kernel_rfl) (af ⟨df,fun _ _ _=>rfl⟩ (af ⟨bP,fun _ _ _=>rfl⟩ acW)) false ad
theorem amJ:az (Wy (M.BF)):=ba (cx:=Hk) true ZH Tryz.func248 (aS (bU 1 (by kernel_rfl) (bY (.mk (by kernel_rfl) aos)))) ⟨fM,fun x=>x.1.1⟩ (fun x=>by kernel_rfl)
def jj(y:Bool⊕Unit){R:Type}(k:KT R):R:=match y with|.inl a0=>kk k Ex.ret zs0 ((a0,()),())|.inr a1=>kk k (Ex.exit 0) zs1 (((),()),())
def jk:List (cH K ((Bool)⊕Unit)):=[⟨Ex.ret,zs0,fun x=>.inl x.1.1⟩,⟨(Ex.exit 0),zs1,fun x=>.inr (())⟩]
def ZI:bG K:=bM D false 26 0 [0,1,5] [4] YX (fun x=>M.wa x.1.1 x.1.2.1 ad x.1.2.2.1) jj
def Yb(m:(List (List UInt8))->(List (List UInt8))->Option Bool):aI K:=cB 243 ⟨[.an U.str,.an U.str],[]⟩ (fun x=>m x.1.1 x.1.2.1)
def Hl:Cx K:=bw [] [] [(4,ZI)]
theorem ZJ:aV Hl:=aZ au _ acW
theorem aot:bH Hl (bC (bL Tryz.f243) 0) ZI:=bN (cx:=Hl) (sh:=YX) (run:=fun n x=>M.wa x.1.1 x.1.2.1 n x.1.2.2.1) (bK:=jk) au ZJ bp (aN (by kernel_rfl)) (fun _=>rfl) (fun m x=>by kernel_rfl) (af ⟨df,fun _ _ _=>rfl⟩ (af ⟨bP,fun _ _ _=>rfl⟩ acW)) false ad
theorem anY:az (Yb (M.Cf)):=ba (cx:=Hl) true ZJ Tryz.func243 (aS (bU 1 (by kernel_rfl) (bY (.mk (by kernel_rfl) aot)))) ⟨zs0,fun x=>x.1.1⟩ (fun x=>by kernel_rfl)
def Bv(m:Int->Int->Int->Option Bool):aI K:=cB 122 ⟨[iq0,iq0,iq0],[]⟩ (fun x=>m x.1.1 x.1.2.1 x.1.2.2.1)
theorem FD:az (Bv (M.By)):=ba (cx:=gY) true ij Tryz.func122 (aS (aN (by kernel_rfl))) ⟨zs0,fun x=>x.1.1⟩ (fun x=>by kernel_rfl)
def ZK:bG K:=bM D false 69 0 [0,3] [2] rl (fun x=>M.wb x.1.1 ad x.1.2.1) jj
def ZL(m:(List UInt8)->Option Bool):aI K:=cB 181 zs2 (fun x=>m x.1.1)
def Hm:Cx K:=bw [] [] [(4,ZK)]
theorem ZM:aV Hm:=aZ au _ acW
theorem aou:bH Hm (bC (bL Tryz.f181) 0) ZK:=bN (cx:=Hm) (sh:=rl) (run:=fun n x=>M.wb x.1.1 n x.1.2.1) (bK:=jk) au ZM bp (aN (by kernel_rfl)) (fun _=>rfl) (fun m x=>by kernel_rfl) (af ⟨df,fun _ _ _=>rfl⟩ (af ⟨bP,fun _ _ _=>rfl⟩ acW)) false ad
theorem aov:az (ZL (M.CP)):=ba (cx:=Hm) true ZM Tryz.func181 (aS (bU 1 (by kernel_rfl) (bY (.mk (by kernel_rfl) aou)))) ⟨zs0,fun x=>x.1.1⟩ (fun x=>by kernel_rfl)
def FR(m:Int->Int->Int->Option Bool):aI K:=cB 125 ⟨[iq0,iq0,iq0],[]⟩ (fun x=>m x.1.1 x.1.2.1 x.1.2.2.1)
theorem L9:az (FR (M.FT)):=ba (cx:=gY) true ij Tryz.func125 (aS (aN (by kernel_rfl))) ⟨zs0,fun x=>x.1.1⟩ (fun x=>by kernel_rfl)
def aow(y:Bool⊕((List UInt8))){R:Type}(k:KT R):R:=match y with|.inl a0=>kk k Ex.ret ⟨[.any,.bool],[]⟩ (((),(a0,())),())|.inr a1=>kk k (Ex.exit 0) ⟨[.str,.any],[]⟩ ((a1,((),())),())
def aox:List (cH K ((Bool)⊕((List UInt8)))):=[⟨Ex.ret,⟨[.any,.bool],[]⟩,fun x=>.inl x.1.2.1⟩,⟨(Ex.exit 0),⟨[.str,.any],[]⟩,fun x=>.inr (x.1.1)⟩]
def ZN:bG K:=bM D false 75 0 [0,7,8] [0,2] rm (fun x=>M.tR x.1.1 x.1.2.1 ad x.1.2.2.1) aow
def MS(m:(List UInt8)->Option Bool):aI K:=cB 99 zs2 (fun x=>m x.1.1)
def Hq:Cx K:=bw [] [] [(2,ZN)]
theorem ZO:aV Hq:=aZ au _ acW
theorem aoy:bH Hq (bC (bL Tryz.f99) 0) ZN:=bN (cx:=Hq) (sh:=rm) (run:=fun n x=>M.tR x.1.1 x.1.2.1 n x.1.2.2.1) (bK:=aox) au ZO bp (aN (by kernel_rfl)) (fun _=>rfl) (fun m x=>by kernel_rfl) (af ⟨df,fun _ _ _=>rfl⟩ (af ⟨bP,fun _ _ _=>rfl⟩ acW)) false ad
theorem ZP:az (MS (M.wc)):=ba (cx:=Hq) true ZO Tryz.func99 (aS (bU 1 (by kernel_rfl) (bY (.mk (by kernel_rfl) aoy)))) ⟨zs0,fun x=>x.1.1⟩ (fun x=>by kernel_rfl)
def aoz(y:Int⊕((List UInt8)×Int×Int×Int)){R:Type}(k:KT R):R:=match y with|.inl a0=>kk k Ex.ret YY (((),((),((),((),(a0,()))))),())|.inr a1=>kk k (Ex.exit 0) YZ ((a1.1,(a1.2.1,(a1.2.2.1,(a1.2.2.2,((),()))))),())
def aoA:List (cH K ((Int)⊕((List UInt8)×Int×Int×Int))):=[⟨Ex.ret,YY,fun x=>.inl x.1.2.2.2.2.1⟩,⟨(Ex.exit 0),YZ,fun x=>.inr ((x.1.1,x.1.2.1,x.1.2.2.1,x.1.2.2.2.1))⟩]
def ZQ:bG K:=bM D false 71 0 [0,3,4,5,6] [0,3,4,5,2] Y0 (fun x=>M.pP x.1.1 ad x.1.2.1 x.1.2.2.1 x.1.2.2.2.1 x.1.2.2.2.2.1) aoz
def wd(m:Int->Option ((List UInt8))):aI K:=cS 256 fM (fun x=>m x.1.1)
def ZR(nb:Int->Option ((List UInt8))):Cx K:=bw [(256,.plain)] [wd nb] []
theorem aoB(nb:Int->Option ((List UInt8)))(MU:az (wd nb)):aV (ZR nb):=aZ au _ (af MU acW)
theorem aoC(nb:Int->Option ((List UInt8)))(MU:az (wd nb)):az (wd (M.yN nb)):=f9 (cx:=ZR nb) (fz:=true) au (aoB nb MU) bp ⟨Tryz.func256,by kernel_rfl⟩ (aS (aN (by kernel_rfl))) ⟨zs2,fun x=>x.1.1⟩ (fun x=>rfl) (fun x=>by kernel_rfl)
theorem ZS:∀n,az (wd (M.pQ n))|0=>nE fun _=>rfl|n+1=>aoC (M.pQ n) (ZS n)
theorem aoD:az (wd (M.we)):=ZS ad
def ZT(m:Int->Option ((List UInt8))):aI K:=cS 220 fM (fun x=>m x.1.1)
def ZU:Cx K:=bw [(256,.plain)] [wd M.we] []
theorem aoE:aV ZU:=aZ au _ (af aoD acW)
theorem aoF:az (ZT (M.CQ)):=ba (cx:=ZU) true aoE Tryz.func220 (aS (aN (by kernel_rfl))) ⟨zs2,fun x=>x.1.1⟩ (fun x=>by kernel_rfl)
def ZV(m:(List UInt8)->Option Int):aI K:=cI 182 zs2 (fun x=>m x.1.1)
def Hr:Cx K:=bw [(122,.plain),(220,.plain)] [Bv M.By,ZT M.CQ] [(3,ZQ)]
theorem ZW:aV Hr:=aZ au _ (af FD (af aoF acW))
theorem aoG:bH Hr (bC (bL Tryz.f182) 0) ZQ:=bN (cx:=Hr) (sh:=Y0) (run:=fun n x=>M.pP x.1.1 n x.1.2.1 x.1.2.2.1 x.1.2.2.2.1 x.1.2.2.2.2.1) (bK:=aoA) au ZW bp (aN (by kernel_rfl)) (fun _=>rfl) (fun m x=>by kernel_rfl) (af ⟨df,fun _ _ _=>rfl⟩ (af ⟨bP,fun _ _ _=>rfl⟩ acW)) false ad
theorem aoH:az (ZV (M.CS)):=ba (cx:=Hr) true ZW Tryz.func182 (aS (bU 1 (by kernel_rfl) (bY (.mk (by kernel_rfl) aoG)))) ⟨fM,fun x=>x.1.1⟩ (fun x=>by kernel_rfl)
def ZX(m:(List UInt8)->Option Bool):aI K:=cB 145 zs2 (fun x=>m x.1.1)
def ZY:Cx K:=bw [(182,.plain)] [ZV M.CS] []
theorem aoI:aV ZY:=aZ au _ (af aoH acW)
theorem aoJ:az (ZX (M.CU)):=ba (cx:=ZY) true aoI Tryz.func145 (aS (aN (by kernel_rfl))) ⟨zs0,fun x=>x.1.1⟩ (fun x=>by kernel_rfl)
def aoK(y:(Int×Bool)⊕Int){R:Type}(k:KT R):R:=match y with|.inl a0=>kk k Ex.ret ⟨[.any,iq0,.bool],[]⟩ (((),(a0.1,(a0.2,()))),())|.inr a1=>kk k (Ex.exit 0) ⟨[iq0,.any,.any],[]⟩ ((a1,((),((),()))),())
def aoL:List (cH K ((Int×Bool)⊕Int)):=[⟨Ex.ret,⟨[.any,iq0,.bool],[]⟩,fun x=>.inl (x.1.2.1,x.1.2.2.1)⟩,⟨(Ex.exit 0),⟨[iq0,.any,.any],[]⟩,fun x=>.inr (x.1.1)⟩]
def ZZ:bG K:=bM D false 39 0 [5,15,16,17] [5,2,3] Y1 (fun x=>M.rn x.1.2.1 x.1.2.2.1 ad x.1.1 x.1.2.2.2.1) aoK
def Z0(m:(List UInt8)->Option (Int×Bool)):aI K:={f:=154,sh:=zs2,R:=Int×Bool,run:=fun x=>m x.1.1,dflt:=default,out:=fun r=>(Sh.enc D (.bD [iq0,.bool]) (r.1,(r.2,())),aY.encs D [] ())}
def Ht:Cx K:=bw [(190,.jN),(191,.plain),(125,.plain)] [KY M.strings_Split,KX M.qB,FR M.FT] [(6,ZZ)]
theorem Z1:aV Ht:=aZ au _ (af agC (af agB (af L9 acW)))
theorem aoM:bH Ht (bC (bL Tryz.f154) 0) ZZ:=bN (cx:=Ht) (sh:=Y1) (run:=fun n x=>M.rn x.1.2.1 x.1.2.2.1 n x.1.1 x.1.2.2.2.1) (bK:=aoL) au Z1 bp (aN (by kernel_rfl)) (fun _=>rfl) (fun m x=>by kernel_rfl) (af ⟨df,fun _ _ _=>rfl⟩ (af ⟨bP,fun _ _ _=>rfl⟩ acW)) false ad
theorem aoN:az (Z0 (M.CV)):=ba (cx:=Ht) true Z1 Tryz.func154 (aS (bU 1 (by kernel_rfl) (bY (.mk (by kernel_rfl) aoM)))) ⟨⟨[.bD [iq0,.bool]],[]⟩,fun x=>(x.1.1.1,x.1.1.2.1)⟩ (fun x=>by kernel_rfl)
def Z2(m:(List UInt8)->Option Bool):aI K:=cB 100 zs2 (fun x=>m x.1.1)
def Z3:Cx K:=bw [(154,.plain)] [Z0 M.CV] []
theorem aoO:aV Z3:=aZ au _ (af aoN acW)
theorem aoP:az (Z2 (M.CW)):=ba (cx:=Z3) true aoO Tryz.func100 (aS (aN (by kernel_rfl))) ⟨zs0,fun x=>x.1.1⟩ (fun x=>by kernel_rfl)
def aoQ(y:Int⊕Unit){R:Type}(k:KT R):R:=match y with|.inl a0=>kk k Ex.ret fM ((a0,()),())|.inr a1=>kk k (Ex.exit 0) zs1 (((),()),())
def aoR:List (cH K ((Int)⊕Unit)):=[⟨Ex.ret,fM,fun x=>.inl x.1.1⟩,⟨(Ex.exit 0),zs1,fun x=>.inr (())⟩]
def Z4:bG K:=bM D false 19 0 [0,1,7,8] [4] Y2 (fun x=>M.vc x.1.1 x.1.2.1 x.1.2.2.1 ad x.1.2.2.2.1) aoQ
def MV(m:(List (List UInt8))->(List UInt8)->Option Int):aI K:=cI 195 ⟨[.an U.str,.str],[]⟩ (fun x=>m x.1.1 x.1.2.1)
def Hu:Cx K:=bw [] [] [(2,Z4)]
theorem Z5:aV Hu:=aZ au _ acW
theorem aoS:bH Hu (bC (bL Tryz.f195) 0) Z4:=bN (cx:=Hu) (sh:=Y2) (run:=fun n x=>M.vc x.1.1 x.1.2.1 x.1.2.2.1 n x.1.2.2.2.1) (bK:=aoR) au Z5 bp (aN (by kernel_rfl)) (fun _=>rfl) (fun m x=>by kernel_rfl) (af ⟨df,fun _ _ _=>rfl⟩ (af ⟨bP,fun _ _ _=>rfl⟩ acW)) false ad
theorem Z6:az (MV (M.va)):=ba (cx:=Hu) true Z5 Tryz.func195 (aS (bU 1 (by kernel_rfl) (bY (.mk (by kernel_rfl) aoS)))) ⟨fM,fun x=>x.1.1⟩ (fun x=>by kernel_rfl)
def Z7(m:(List (List UInt8))->(List UInt8)->Option Bool):aI K:=cB 231 ⟨[.an U.str,.str],[]⟩ (fun x=>m x.1.1 x.1.2.1)
def Z8:Cx K:=bw [(195,.plain)] [MV M.va] []
theorem aoT:aV Z8:=aZ au _ (af Z6 acW)
theorem aoU:az (Z7 (M.EE)):=ba (cx:=Z8) true aoT Tryz.func231 (aS (aN (by kernel_rfl))) ⟨zs0,fun x=>x.1.1⟩ (fun x=>by kernel_rfl)
def aoV(y:(List (List UInt8))){R:Type}(k:KT R):R:=match y with|a0=>kk k (Ex.exit 0) ⟨[.own 1],[.dead,.arr U.str]⟩ (((),()),((),(a0,())))
def aoW:List (cH K ((List (List UInt8)))):=[⟨(Ex.exit 0),⟨[.own 1],[.dead,.arr U.str]⟩,fun x=>x.2.2.1⟩]
def Z9:bG K:=bM D false 22 1 [0,3,4] [3] Y3 (fun x=>M.tU x.1.1 ad x.1.2.2.1 x.2.2.1) aoV
def Xq(m:(List (List UInt8))->Option ((List (List UInt8)))):aI K:={f:=252,sh:=yw,R:=(List (List UInt8)),run:=fun x=>m x.1.1,dflt:=default,out:=fun r=>(Sh.enc D (.own 0) (),aY.encs D [.arr U.str] (r,()))}
def Hw:Cx K:={eZ with mode:=eC .plain [],iG:=[[some U.str]],deep:=fun c=>eN (D.cells c (K.zero c)),call:=callOf D [],loop:=dZ [(3,Z9)]}
theorem aab:aV Hw:=aZ au _ acW
theorem aoX:bH Hw (bC (bL Tryz.f252) 0) Z9:=bN (cx:=Hw) (sh:=Y3) (run:=fun n x=>M.tU x.1.1 n x.1.2.2.1 x.2.2.1) (bK:=aoW) au aab bp (aN (by kernel_rfl)) (fun _=>rfl) (fun m x=>by kernel_rfl) (af ⟨bP,fun _ _ _=>rfl⟩ acW) false ad
theorem ang:az (Xq (M.BV)):=ba (cx:=Hw) false aab Tryz.func252 (aS (bU 1 (by kernel_rfl) (bY (.mk (by kernel_rfl) aoX)))) ⟨⟨[.own 0],[.arr U.str]⟩,fun x=>x.2.1⟩ (fun x=>by kernel_rfl)
def aoY(y:(List UInt8)×Int×Int){R:Type}(k:KT R):R:=match y with|a0=>kk k (Ex.exit 3) rm ((a0.1,(a0.2.1,(a0.2.2,()))),())
def aoZ:List (cH K ((List UInt8)×Int×Int)):=[⟨(Ex.exit 3),rm,fun x=>(x.1.1,x.1.2.1,x.1.2.2.1)⟩]
def aac:bG K:=bM D false 63 0 [0,1,2] [0,1,2] rm (fun x=>M.xn x.1.1 x.1.2.2.1 ad x.1.2.1) aoY
def ao0(y:(Int×Int)⊕(Int×Int)){R:Type}(k:KT R):R:=match y with|.inl a0=>kk k Ex.ret Y4 (((),((),(a0.1,(a0.2,())))),())|.inr a1=>kk k (Ex.exit 0) Y5 ((a1.1,(a1.2,((),((),())))),())
def ao1:List (cH K ((Int×Int)⊕(Int×Int))):=[⟨Ex.ret,Y4,fun x=>.inl (x.1.2.2.1,x.1.2.2.2.1)⟩,⟨(Ex.exit 0),Y5,fun x=>.inr ((x.1.1,x.1.2.1))⟩]
def aad:bG K:=bM D false 63 0 [0,1,2] [1,2,6,7] rm (fun x=>M.qD ad x.1.1 x.1.2.1 x.1.2.2.1) ao0
def aae(m:(List UInt8)->Int->Int->Option (Int×Int)):aI K:={f:=86,sh:=rm,R:=Int×Int,run:=fun x=>m x.1.1 x.1.2.1 x.1.2.2.1,dflt:=default,out:=fun r=>(Sh.enc D (.bD [iq0,iq0]) (r.1,(r.2,())),aY.encs D [] ())}
def yO:Cx K:=bw [] [] [(9,aac),(1,aad)]
theorem MW:aV yO:=aZ au _ acW
theorem ao2:bH yO (bC (bC (bL Tryz.f86) 0) 0) aac:=bN (cx:=yO) (sh:=rm) (run:=fun n x=>M.xn x.1.1 x.1.2.2.1 n x.1.2.1) (bK:=aoZ) au MW bp (aN (by kernel_rfl)) (fun _=>rfl) (fun m x=>by kernel_rfl) (af ⟨bP,fun _ _ _=>rfl⟩ acW) false ad
theorem ao3:bH yO (bC (bL Tryz.f86) 0) aad:=bN (cx:=yO) (sh:=rm) (run:=fun n x=>M.qD n x.1.1 x.1.2.1 x.1.2.2.1) (bK:=ao1) au MW bp (bU 1 (by kernel_rfl) (bY (.mk (by kernel_rfl) ao2))) (fun _=>rfl) (fun m x=>by kernel_rfl) (af ⟨df,fun _ _ _=>rfl⟩ (af ⟨bP,fun _ _ _=>rfl⟩ acW)) false ad
theorem ao4:az (aae (M.uZ)):=ba (cx:=yO) true MW Tryz.func86 (aS (bU 1 (by kernel_rfl) (bY (.mk (by kernel_rfl) ao3)))) ⟨⟨[.bD [iq0,iq0]],[]⟩,fun x=>(x.1.1.1,x.1.1.2.1)⟩ (fun x=>by kernel_rfl)
def MX(m:Int->Option Bool):aI K:=cB 138 yK (fun x=>m x.1.1)
theorem aaf:az (MX (M.MY)):=ba (cx:=gY) true ij Tryz.func138 (aS (aN (by kernel_rfl))) ⟨zs0,fun x=>x.1.1⟩ (fun x=>by kernel_rfl)
def Hy(m:Int->Option Bool):aI K:=cB 140 yK (fun x=>m x.1.1)
theorem MZ:az (Hy (M.Hz)):=ba (cx:=gY) true ij Tryz.func140 (aS (aN (by kernel_rfl))) ⟨zs0,fun x=>x.1.1⟩ (fun x=>by kernel_rfl)
def aag:bG K:=bM D false 53 0 [0,1] [1,4] rl (fun x=>M.u4 x.1.1 ad x.1.2.1) pK
def aah(m:(List UInt8)->Int->Option Int):aI K:=cI 139 rl (fun x=>m x.1.1 x.1.2.1)
def HA:Cx K:=bw [(138,.plain),(140,.plain)] [MX M.MY,Hy M.Hz] [(1,aag)]
theorem aai:aV HA:=aZ au _ (af aaf (af MZ acW))
theorem ao5:bH HA (bC (bL Tryz.f139) 0) aag:=bN (cx:=HA) (sh:=rl) (run:=fun n x=>M.u4 x.1.1 n x.1.2.1) (bK:=pM) au aai bp (aN (by kernel_rfl)) (fun _=>rfl) (fun m x=>by kernel_rfl) (af ⟨df,fun _ _ _=>rfl⟩ (af ⟨bP,fun _ _ _=>rfl⟩ acW)) false ad
theorem ao6:az (aah (M.zU)):=ba (cx:=HA) true aai Tryz.func139 (aS (bU 1 (by kernel_rfl) (bY (.mk (by kernel_rfl) ao5)))) ⟨fM,fun x=>x.1.1⟩ (fun x=>by kernel_rfl)
def aaj:bG K:=bM D false 39 0 [0,1] [1,4] rl (fun x=>M.u6 x.1.1 ad x.1.2.1) pK
def aak(m:(List UInt8)->Int->Option Int):aI K:=cI 141 rl (fun x=>m x.1.1 x.1.2.1)
def HD:Cx K:=bw [(140,.plain)] [Hy M.Hz] [(1,aaj)]
theorem aal:aV HD:=aZ au _ (af MZ acW)
theorem ao7:bH HD (bC (bL Tryz.f141) 0) aaj:=bN (cx:=HD) (sh:=rl) (run:=fun n x=>M.u6 x.1.1 n x.1.2.1) (bK:=pM) au aal bp (aN (by kernel_rfl)) (fun _=>rfl) (fun m x=>by kernel_rfl) (af ⟨df,fun _ _ _=>rfl⟩ (af ⟨bP,fun _ _ _=>rfl⟩ acW)) false ad
theorem ao8:az (aak (M.zV)):=ba (cx:=HD) true aal Tryz.func141 (aS (bU 1 (by kernel_rfl) (bY (.mk (by kernel_rfl) ao7)))) ⟨fM,fun x=>x.1.1⟩ (fun x=>by kernel_rfl)
def aam:bG K:=bM D false 16 0 [0,3,4] [2] ⟨[.int .u8,.str,iq0],[]⟩ (fun x=>M.sn x.1.1 x.1.2.1 ad x.1.2.2.1) jj
def aan(m:Int->Option Bool):aI K:=cB 142 yK (fun x=>m x.1.1)
def HE:Cx K:=bw [] [] [(3,aam)]
theorem aao:aV HE:=aZ au _ acW
theorem ao9:bH HE (bC (bL Tryz.f142) 0) aam:=bN (cx:=HE) (sh:=⟨[.int .u8,.str,iq0],[]⟩) (run:=fun n x=>M.sn x.1.1 x.1.2.1 n x.1.2.2.1) (bK:=jk) au aao bp (aN (by kernel_rfl)) (fun _=>rfl) (fun m x=>by kernel_rfl) (af ⟨df,fun _ _ _=>rfl⟩ (af ⟨bP,fun _ _ _=>rfl⟩ acW)) false ad
theorem apa:az (aan (M.zX)):=ba (cx:=HE) true aao Tryz.func142 (aS (bU 1 (by kernel_rfl) (bY (.mk (by kernel_rfl) ao9)))) ⟨zs0,fun x=>x.1.1⟩ (fun x=>by kernel_rfl)
def aap(m:(List UInt8)->Int->Option (M.ai×Int)):aI K:={f:=87,sh:=rl,R:=M.ai×Int,run:=fun x=>m x.1.1 x.1.2.1,dflt:=default,out:=fun r=>(Sh.enc D (.bD [.el U.Token,iq0]) (r.1,(r.2,())),aY.encs D [] ())}
def aaq:Cx K:=bw [(138,.plain),(139,.plain),(140,.plain),(141,.plain),(142,.plain)] [MX M.MY,aah M.zU,Hy M.Hz,aak M.zV,aan M.zX] []
theorem apb:aV aaq:=aZ au _ (af aaf (af ao6 (af MZ (af ao8 (af apa acW)))))
theorem apc:az (aap (M.zZ)):=ba (cx:=aaq) true apb Tryz.func87 (aS (aN (by kernel_rfl))) ⟨⟨[.bD [.el U.Token,iq0]],[]⟩,fun x=>(x.1.1.1,x.1.1.2.1)⟩ (fun x=>by kernel_rfl)
def apd(y:(Int×Int×(List M.ai))⊕(Int×(List M.ai))){R:Type}(k:KT R):R:=match y with|.inl a0=>kk k Ex.ret Y6 (((),((),((),(a0.1,(a0.2.1,()))))),((),((),(a0.2.2,()))))|.inr a1=>kk k (Ex.exit 0) Y7 (((),(a1.1,((),((),((),()))))),((),(a1.2,())))
def ape:List (cH K ((Int×Int×(List M.ai))⊕(Int×(List M.ai)))):=[⟨Ex.ret,Y6,fun x=>.inl (x.1.2.2.2.1,x.1.2.2.2.2.1,x.2.2.2.1)⟩,⟨(Ex.exit 0),Y7,fun x=>.inr ((x.1.2.1,x.2.2.1))⟩]
def aar:bG K:=bM D false 54 1 [0,5,6,7] [5,7,2,3,4] Y8 (fun x=>M.xt x.1.1 ad x.1.2.2.1 x.1.2.2.2.1 x.2.2.1) apd
def TW(m:(List UInt8)->Option ((List M.ai)×Int×Int)):aI K:={f:=44,sh:=zs2,R:=(List M.ai)×Int×Int,run:=fun x=>m x.1.1,dflt:=default,out:=fun r=>(Sh.enc D (.bD [.an U.Token,iq0,iq0]) (r.1,(r.2.1,(r.2.2,()))),aY.encs D [] ())}
def HG:Cx K:=bw [(86,.plain),(87,.plain)] [aae M.uZ,aap M.zZ] [(5,aar)]
theorem aas:aV HG:=aZ au _ (af ao4 (af apc acW))
theorem apf:bH HG (bC (bL Tryz.f44) 0) aar:=bN (cx:=HG) (sh:=Y8) (run:=fun n x=>M.xt x.1.1 n x.1.2.2.1 x.1.2.2.2.1 x.2.2.1) (bK:=ape) au aas bp (aN (by kernel_rfl)) (fun _=>rfl) (fun m x=>by kernel_rfl) (af ⟨df,fun _ _ _=>rfl⟩ (af ⟨bP,fun _ _ _=>rfl⟩ acW)) false ad
theorem aj9:az (TW (M.Aa)):=ba (cx:=HG) true aas Tryz.func44 (aS (bU 1 (by kernel_rfl) (bY (.mk (by kernel_rfl) apf)))) ⟨Y9,fun x=>(x.1.1.1,x.1.1.2.1,x.1.1.2.2.1)⟩ (fun x=>by kernel_rfl)
def aat(m:(List UInt8)->(List UInt8)->Option Bool):aI K:=cB 187 ⟨[.str,.str],[]⟩ (fun x=>m x.1.1 x.1.2.1)
theorem apg:az (aat (M.Es)):=ba (cx:=gY) true ij Tryz.func187 (aS (aN (by kernel_rfl))) ⟨zs0,fun x=>x.1.1⟩ (fun x=>by kernel_rfl)
def M1(m:(List UInt8)->(List UInt8)->Option Bool):aI K:=cB 149 ⟨[.str,.str],[]⟩ (fun x=>m x.1.1 x.1.2.1)
def aau:Cx K:=bw [(187,.plain)] [aat M.Es] []
theorem aph:aV aau:=aZ au _ (af apg acW)
theorem aav:az (M1 (M.strings_HasPrefix)):=ba (cx:=aau) true aph Tryz.func149 (aS (aN (by kernel_rfl))) ⟨zs0,fun x=>x.1.1⟩ (fun x=>by kernel_rfl)
def api(y:(List UInt8)×Int×Int×(List M.ai)){R:Type}(k:KT R):R:=match y with|a0=>kk k (Ex.exit 3) yL (((),()),((a0.1,(a0.2.1,(a0.2.2.1,((),())))),((),(a0.2.2.2,()))))
def apj:List (cH K ((List UInt8)×Int×Int×(List M.ai))):=[⟨(Ex.exit 3),yL,fun x=>(x.2.1.1,x.2.1.2.1,x.2.1.2.2.1,x.2.2.2.1)⟩]
def aaw:bG K:=bM D false 89 2 [0] [0] yL (fun x=>M.xo x.2.1.1 x.2.1.2.2.1 x.2.2.2.1 ad x.2.1.2.1) api
def apk(y:((List UInt8)×Int×Int×(List M.ai))⊕((List UInt8)×Int×Int×(List M.ai))){R:Type}(k:KT R):R:=match y with|.inl a0=>kk k Ex.ret G7 ((),((a0.1,(a0.2.1,(a0.2.2.1,((),())))),((),(a0.2.2.2,()))))|.inr a1=>kk k (Ex.exit 0) G7 ((),((a1.1,(a1.2.1,(a1.2.2.1,((),())))),((),(a1.2.2.2,()))))
def apl:List (cH K (((List UInt8)×Int×Int×(List M.ai))⊕((List UInt8)×Int×Int×(List M.ai)))):=[⟨Ex.ret,G7,fun x=>.inl (x.2.1.1,x.2.1.2.1,x.2.1.2.2.1,x.2.2.2.1)⟩,⟨(Ex.exit 0),G7,fun x=>.inr ((x.2.1.1,x.2.1.2.1,x.2.1.2.2.1,x.2.2.2.1))⟩]
def aax:bG K:=bM D false 89 2 [0] [] yL (fun x=>M.qF ad x.2.1.1 x.2.1.2.1 x.2.1.2.2.1 x.2.2.2.1) apk
def aay(m:(List UInt8)->Int->Int->(List M.ai)->Option ((List UInt8)×Int×Int×(List M.ai))):aI K:={f:=96,sh:=⟨[.ptr 0 0],[.box [.str,iq0,iq0,.own 1],.arr U.Token]⟩,R:=(List UInt8)×Int×Int×(List M.ai),run:=fun x=>m x.2.1.1 x.2.1.2.1 x.2.1.2.2.1 x.2.2.1,dflt:=default,out:=fun r=>(Sh.enc D (.bD []) (),aY.encs D [.box [.str,iq0,iq0,.own 2],.dead,.arr U.Token] ((r.1,(r.2.1,(r.2.2.1,((),())))),((),(r.2.2.2,()))))}
def yP:Cx K:={eZ with mode:=eC .plain [(149,.plain)],mv:=true,call:=callOf D [M1 M.strings_HasPrefix],loop:=dZ [(8,aaw),(0,aax)]}
theorem M3:aV yP:=aZ au _ (af aav acW)
theorem apm:bH yP (bC (bC (bL Tryz.f96) 0) 0) aaw:=bN (cx:=yP) (sh:=yL) (run:=fun n x=>M.xo x.2.1.1 x.2.1.2.2.1 x.2.2.2.1 n x.2.1.2.1) (bK:=apj) au M3 bp (aN (by kernel_rfl)) (fun _=>rfl) (fun m x=>by kernel_rfl) (af ⟨bP,fun _ _ _=>rfl⟩ acW) false ad
theorem apn:bH yP (bC (bL Tryz.f96) 0) aax:=bN (cx:=yP) (sh:=yL) (run:=fun n x=>M.qF n x.2.1.1 x.2.1.2.1 x.2.1.2.2.1 x.2.2.2.1) (bK:=apl) au M3 bp (bU 1 (by kernel_rfl) (bY (.mk (by kernel_rfl) apm))) (fun _=>rfl) (fun m x=>by kernel_rfl) (af ⟨df,fun _ _ _=>rfl⟩ (af ⟨bP,fun _ _ _=>rfl⟩ acW)) false ad
theorem apo:az (aay (M.u0)):=ba (cx:=yP) true M3 Tryz.func96 (aS (bU 1 (by kernel_rfl) (bY (.mk (by kernel_rfl) apn)))) ⟨⟨[.bD []],[.box [.str,iq0,iq0,.own 2],.dead,.arr U.Token]⟩,fun x=>(x.2.1.1,x.2.1.2.1,x.2.1.2.2.1,x.2.2.2.1)⟩ (fun x=>by kernel_rfl)
def aaz(m:M.iv->Int->Option Int):aI K:={f:=188,sh:=⟨[.rp U.mn 0,iq0],[]⟩,R:=Int,run:=fun x=>m x.1.1 x.1.2.1,dflt:=default,out:=fun r=>(Sh.enc D (.int .u8) r,aY.encs D [] ())}
theorem apq:az (aaz (M.zW)):=ba (cx:=gY) true ij Tryz.func188 (aS (aN (by kernel_rfl))) ⟨yK,fun x=>x.1.1⟩ (fun x=>by kernel_rfl)
def apr(y:Int){R:Type}(k:KT R):R:=match y with|a0=>kk k (Ex.exit 0) fM ((a0,()),())
def aps:List (cH K Int):=[⟨(Ex.exit 0),fM,fun x=>x.1.1⟩]
def aaA:bG K:=bM D false 79 0 [0,1,5] [1] ⟨[.rp U.mn 0,iq0,.bool],[]⟩ (fun x=>M.xq x.1.1 x.1.2.2.1 ad x.1.2.1) apr
def aaB(m:M.iv->Int->Option Int):aI K:=cI 151 ⟨[.rp U.mn 0,iq0],[]⟩ (fun x=>m x.1.1 x.1.2.1)
def HH:Cx K:=bw [(150,.plain),(188,.plain),(152,.plain)] [MO M.MP,aaz M.zW,MQ M.MR] [(3,aaA)]
theorem aaC:aV HH:=aZ au _ (af ZE (af apq (af ZF acW)))
theorem apt:bH HH (bC (bL Tryz.f151) 0) aaA:=bN (cx:=HH) (sh:=⟨[.rp U.mn 0,iq0,.bool],[]⟩) (run:=fun n x=>M.xq x.1.1 x.1.2.2.1 n x.1.2.1) (bK:=aps) au aaC bp (aN (by kernel_rfl)) (fun _=>rfl) (fun m x=>by kernel_rfl) (af ⟨bP,fun _ _ _=>rfl⟩ acW) false ad
theorem apu:az (aaB (M.xr)):=ba (cx:=HH) true aaC Tryz.func151 (aS (bU 1 (by kernel_rfl) (bY (.mk (by kernel_rfl) apt)))) ⟨fM,fun x=>x.1.1⟩ (fun x=>by kernel_rfl)
def aaD(m:M.iv->Option (Int×Int)):aI K:={f:=97,sh:=⟨[.rp U.mn 0],[]⟩,R:=Int×Int,run:=fun x=>m x.1.1,dflt:=default,out:=fun r=>(Sh.enc D (.bD [iq0,iq0]) (r.1,(r.2,())),aY.encs D [] ())}
def aaE:Cx K:=bw [(150,.plain),(151,.plain),(152,.plain),(149,.plain),(153,.plain)] [MO M.MP,aaB M.xr,MQ M.MR,M1 M.strings_HasPrefix,KR M.strings_IndexByte] []
theorem apv:aV aaE:=aZ au _ (af ZE (af apu (af ZF (af aav (af age acW)))))
theorem apw:az (aaD (M.zY)):=ba (cx:=aaE) true apv Tryz.func97 (aS (aN (by kernel_rfl))) ⟨⟨[.bD [iq0,iq0]],[]⟩,fun x=>(x.1.1.1,x.1.1.2.1)⟩ (fun x=>by kernel_rfl)
def apx(y:(Int×Int)⊕((List UInt8)×Int×Int×(List M.ai))){R:Type}(k:KT R):R:=match y with|.inl a0=>kk k Ex.ret Za (((),((),(a0.1,(a0.2,())))),((),((),((),()))))|.inr a1=>kk k (Ex.exit 0) Zb (((),((),((),((),())))),((a1.1,(a1.2.1,(a1.2.2.1,((),())))),((),(a1.2.2.2,()))))
def apy:List (cH K ((Int×Int)⊕((List UInt8)×Int×Int×(List M.ai)))):=[⟨Ex.ret,Za,fun x=>.inl (x.1.2.2.1,x.1.2.2.2.1)⟩,⟨(Ex.exit 0),Zb,fun x=>.inr ((x.2.1.1,x.2.1.2.1,x.2.1.2.2.1,x.2.2.2.1))⟩]
def aaF:bG K:=bM D false 85 2 [0,5] [5,2,3,4] Zc (fun x=>M.xu x.1.1 ad x.2.1.1 x.2.1.2.1 x.2.1.2.2.1 x.2.2.2.1) apx
def aaG(m:(List UInt8)->Option ((List M.ai)×Int×Int)):aI K:={f:=48,sh:=zs2,R:=(List M.ai)×Int×Int,run:=fun x=>m x.1.1,dflt:=default,out:=fun r=>(Sh.enc D (.bD [.an U.Token,iq0,iq0]) (r.1,(r.2.1,(r.2.2,()))),aY.encs D [] ())}
def HJ:Cx K:=bw [(96,.bh),(97,.plain)] [aay M.u0,aaD M.zY] [(5,aaF)]
theorem aaH:aV HJ:=aZ au _ (af apo (af apw acW))
theorem apz:bH HJ (bC (bL Tryz.f48) 0) aaF:=bN (cx:=HJ) (sh:=Zc) (run:=fun n x=>M.xu x.1.1 n x.2.1.1 x.2.1.2.1 x.2.1.2.2.1 x.2.2.2.1) (bK:=apy) au aaH bp (aN (by kernel_rfl)) (fun _=>rfl) (fun m x=>by kernel_rfl) (af ⟨df,fun _ _ _=>rfl⟩ (af ⟨bP,fun _ _ _=>rfl⟩ acW)) false ad
theorem apA:az (aaG (M.Ab)):=ba (cx:=HJ) true aaH Tryz.func48 (aS (bU 1 (by kernel_rfl) (bY (.mk (by kernel_rfl) apz)))) ⟨Y9,fun x=>(x.1.1.1,x.1.1.2.1,x.1.1.2.2.1)⟩ (fun x=>by kernel_rfl)
def vB(m:M.aC->Option (M.ai×M.aC)):aI K:={f:=46,sh:=m8,R:=M.ai×M.aC,run:=fun x=>m x.2.1,dflt:=default,out:=fun r=>(Sh.enc D (.el U.Token) r.1,aY.encs D [.el U.dm] (r.2,()))}
theorem yu:az (vB (M.kP)):=ba (cx:=gY) true ij Tryz.func46 (aS (aN (by kernel_rfl))) ⟨⟨[.el U.Token],[.el U.dm]⟩,fun x=>(x.1.1,x.2.1)⟩ (fun x=>by kernel_rfl)
def aaI(m:(List UInt8)->Option Bool):aI K:=cB 143 zs2 (fun x=>m x.1.1)
def aaJ:Cx K:=bw [(181,.plain)] [ZL M.CP] []
theorem apB:aV aaJ:=aZ au _ (af aov acW)
theorem apC:az (aaI (M.Ae)):=ba (cx:=aaJ) true apB Tryz.func143 (aS (aN (by kernel_rfl))) ⟨zs0,fun x=>x.1.1⟩ (fun x=>by kernel_rfl)
def HK(m:M.aC->Option (M.aC)):aI K:={f:=144,sh:=m8,R:=M.aC,run:=fun x=>m x.2.1,dflt:=default,out:=fun r=>(Sh.enc D (.bD []) (),aY.encs D [.el U.dm] (r,()))}
theorem M4:az (HK (M.qG)):=ba (cx:=gY) true ij Tryz.func144 (aS (aN (by kernel_rfl))) ⟨MJ,fun x=>x.2.1⟩ (fun x=>by kernel_rfl)
def pF(m:M.aC->Option ((List UInt8)×M.aC)):aI K:={f:=89,sh:=m8,R:=(List UInt8)×M.aC,run:=fun x=>m x.2.1,dflt:=default,out:=fun r=>(Sh.enc D (.str) r.1,aY.encs D [.el U.dm] (r.2,()))}
def aaK:Cx K:=bw [(46,.bh),(143,.plain),(144,.bh)] [vB M.kP,aaI M.Ae,HK M.qG] []
theorem apD:aV aaK:=aZ au _ (af yu (af apC (af M4 acW)))
theorem ri:az (pF (M.gd)):=ba (cx:=aaK) true apD Tryz.func89 (aS (aN (by kernel_rfl))) ⟨MK,fun x=>(x.1.1,x.2.1)⟩ (fun x=>by kernel_rfl)
def L2(m:Option ((List (List UInt8)))):aI K:={f:=176,sh:=⟨[],[]⟩,R:=(List (List UInt8)),run:=fun x=>m,dflt:=default,out:=fun r=>(Sh.enc D (.own 0) (),aY.encs D [.arr U.str] (r,()))}
def aaL:Cx K:={eZ with mode:=eC .plain [],iG:=[[some U.str]],call:=callOf D [],loop:=dZ []}
theorem apE:aV aaL:=aZ au _ acW
theorem Uj:az (L2 (M.jz)):=ba (cx:=aaL) false apE Tryz.func176 (aS (aN (by kernel_rfl))) ⟨⟨[.own 0],[.arr U.str]⟩,fun x=>x.2.1⟩ (fun x=>by kernel_rfl)
def L6(m:Option ((List (List UInt8)))):aI K:={f:=177,sh:=⟨[],[]⟩,R:=(List (List UInt8)),run:=fun x=>m,dflt:=default,out:=fun r=>(Sh.enc D (.an U.str) r,aY.encs D [] ())}
theorem Uk:az (L6 (M.jA)):=ba (cx:=gY) true ij Tryz.func177 (aS (aN (by kernel_rfl))) ⟨yw,fun x=>x.1.1⟩ (fun x=>by kernel_rfl)
def apF(y:Int⊕Unit){R:Type}(k:KT R):R:=match y with|.inl a0=>kk k Ex.ret ⟨[iq0],[.dead]⟩ ((a0,()),((),()))|.inr a1=>kk k (Ex.exit 0) Gi (((),()),((),()))
def apG:List (cH K ((Int)⊕Unit)):=[⟨Ex.ret,⟨[iq0],[.dead]⟩,fun x=>.inl x.1.1⟩,⟨(Ex.exit 0),Gi,fun x=>.inr (())⟩]
def aaM:bG K:=bM D false 22 1 [0,3,4] [2] Zd (fun x=>M.sr x.1.1 x.2.2.1 ad x.1.2.2.1) apF
def M5(m:(List UInt8)->Option Int):aI K:=cI 223 zs2 (fun x=>m x.1.1)
def HM:Cx K:=bw [(176,.fresh),(177,.jN)] [L2 M.jz,L6 M.jA] [(3,aaM)]
theorem aaN:aV HM:=aZ au _ (af Uj (af Uk acW))
theorem apH:bH HM (bC (bL Tryz.f223) 0) aaM:=bN (cx:=HM) (sh:=Zd) (run:=fun n x=>M.sr x.1.1 x.2.2.1 n x.1.2.2.1) (bK:=apG) au aaN bp (aN (by kernel_rfl)) (fun _=>rfl) (fun m x=>by kernel_rfl) (af ⟨df,fun _ _ _=>rfl⟩ (af ⟨bP,fun _ _ _=>rfl⟩ acW)) false ad
theorem aaO:az (M5 (M.sq)):=ba (cx:=HM) true aaN Tryz.func223 (aS (bU 1 (by kernel_rfl) (bY (.mk (by kernel_rfl) apH)))) ⟨fM,fun x=>x.1.1⟩ (fun x=>by kernel_rfl)
def aaP(m:(List UInt8)->M.aC->Option (Bool×M.aC)):aI K:={f:=146,sh:=G8,R:=Bool×M.aC,run:=fun x=>m x.1.2.1 x.2.1,dflt:=default,out:=fun r=>(Sh.enc D (.bool) r.1,aY.encs D [.el U.dm] (r.2,()))}
def aaQ:Cx K:=bw [(46,.bh)] [vB M.kP] []
theorem apI:aV aaQ:=aZ au _ (af yu acW)
theorem apJ:az (aaP (M.Ad)):=ba (cx:=aaQ) true apI Tryz.func146 (aS (aN (by kernel_rfl))) ⟨⟨[.bool],[.el U.dm]⟩,fun x=>(x.1.1,x.2.1)⟩ (fun x=>by kernel_rfl)
def ml(m:(List UInt8)->M.aC->Option (Bool×M.aC)):aI K:={f:=91,sh:=G8,R:=Bool×M.aC,run:=fun x=>m x.1.2.1 x.2.1,dflt:=default,out:=fun r=>(Sh.enc D (.bool) r.1,aY.encs D [.el U.dm] (r.2,()))}
def aaR:Cx K:=bw [(146,.bh),(144,.bh)] [aaP M.Ad,HK M.qG] []
theorem apK:aV aaR:=aZ au _ (af apJ (af M4 acW))
theorem na:az (ml (M.dN)):=ba (cx:=aaR) true apK Tryz.func91 (aS (aN (by kernel_rfl))) ⟨⟨[.bool],[.el U.dm]⟩,fun x=>(x.1.1,x.2.1)⟩ (fun x=>by kernel_rfl)
def m9(m:(List UInt8)->M.aC->Option (M.aC)):aI K:={f:=88,sh:=G8,R:=M.aC,run:=fun x=>m x.1.2.1 x.2.1,dflt:=default,out:=fun r=>(Sh.enc D (.bD []) (),aY.encs D [.el U.dm] (r,()))}
def aaS:Cx K:=bw [(91,.bh)] [ml M.dN] []
theorem apL:aV aaS:=aZ au _ (af na acW)
theorem nY:az (m9 (M.dI)):=ba (cx:=aaS) true apL Tryz.func88 (aS (aN (by kernel_rfl))) ⟨MJ,fun x=>x.2.1⟩ (fun x=>by kernel_rfl)
def aaT(m:Int->M.ar->Option ((List UInt8)×M.ar)):aI K:={f:=98,sh:=⟨[.ptr 0 0,iq0,.fn 99 []],[.el U.parser]⟩,R:=(List UInt8)×M.ar,run:=fun x=>m x.1.2.1 x.2.1,dflt:=default,out:=fun r=>(Sh.enc D (.str) r.1,aY.encs D [.el U.parser] (r.2,()))}
def aaU:Cx K:=bw [(99,.plain)] [MS M.wc] []
theorem apM:aV aaU:=aZ au _ (af ZP acW)
theorem apN:az (aaT (M.Af)):=ba (cx:=aaU) true apM Tryz.func98 (aS (aN (by kernel_rfl))) ⟨yM,fun x=>(x.1.1,x.2.1)⟩ (fun x=>by kernel_rfl)
def rq(m:M.ar->Option ((List UInt8)×M.ar)):aI K:={f:=50,sh:=tH,R:=(List UInt8)×M.ar,run:=fun x=>m x.2.1,dflt:=default,out:=fun r=>(Sh.enc D (.str) r.1,aY.encs D [.el U.parser] (r.2,()))}
def aaV:Cx K:=bw [(98,.bh)] [aaT M.Af] []
theorem apO:aV aaV:=aZ au _ (af apN acW)
theorem tV:az (rq (M.gJ)):=ba (cx:=aaV) true apO Tryz.func50 (aS (aN (by kernel_rfl))) ⟨yM,fun x=>(x.1.1,x.2.1)⟩ (fun x=>by kernel_rfl)
def FU(m:Option ((List (List UInt8)))):aI K:={f:=196,sh:=⟨[],[]⟩,R:=(List (List UInt8)),run:=fun x=>m,dflt:=default,out:=fun r=>(Sh.enc D (.an U.str) r,aY.encs D [] ())}
theorem Mc:az (FU (M.fW)):=ba (cx:=gY) true ij Tryz.func196 (aS (aN (by kernel_rfl))) ⟨yw,fun x=>x.1.1⟩ (fun x=>by kernel_rfl)
def M6(m:(List UInt8)->Option Bool):aI K:=cB 194 zs2 (fun x=>m x.1.1)
def aaW:Cx K:=bw [(196,.jN),(231,.plain)] [FU M.fW,Z7 M.EE] []
theorem apP:aV aaW:=aZ au _ (af Mc (af aoU acW))
theorem aaX:az (M6 (M.qH)):=ba (cx:=aaW) true apP Tryz.func194 (aS (aN (by kernel_rfl))) ⟨zs0,fun x=>x.1.1⟩ (fun x=>by kernel_rfl)
def yQ(m:(List UInt8)->M.ar->Option (Bool×M.ar)):aI K:={f:=101,sh:=G9,R:=Bool×M.ar,run:=fun x=>m x.1.2.1 x.2.1,dflt:=default,out:=fun r=>(Sh.enc D (.bool) r.1,aY.encs D [.el U.parser] (r.2,()))}
theorem CX:az (yQ (M.me)):=ba (cx:=gY) true ij Tryz.func101 (aS (aN (by kernel_rfl))) ⟨⟨[.bool],[.el U.parser]⟩,fun x=>(x.1.1,x.2.1)⟩ (fun x=>by kernel_rfl)
def mo(m:(List UInt8)->M.ar->Option (Bool×M.ar)):aI K:={f:=52,sh:=G9,R:=Bool×M.ar,run:=fun x=>m x.1.2.1 x.2.1,dflt:=default,out:=fun r=>(Sh.enc D (.bool) r.1,aY.encs D [.el U.parser] (r.2,()))}
def aaY:Cx K:=bw [(101,.bh)] [yQ M.me] []
theorem apQ:aV aaY:=aZ au _ (af CX acW)
theorem nc:az (mo (M.eI)):=ba (cx:=aaY) true apQ Tryz.func52 (aS (aN (by kernel_rfl))) ⟨⟨[.bool],[.el U.parser]⟩,fun x=>(x.1.1,x.2.1)⟩ (fun x=>by kernel_rfl)
def pR(m:(List UInt8)->M.ar->Option (M.ar)):aI K:={f:=49,sh:=G9,R:=M.ar,run:=fun x=>m x.1.2.1 x.2.1,dflt:=default,out:=fun r=>(Sh.enc D (.bD []) (),aY.encs D [.el U.parser] (r,()))}
def aaZ:Cx K:=bw [(52,.bh)] [mo M.eI] []
theorem apR:aV aaZ:=aZ au _ (af nc acW)
theorem ru:az (pR (M.dj)):=ba (cx:=aaZ) true apR Tryz.func49 (aS (aN (by kernel_rfl))) ⟨⟨[.bD []],[.el U.parser]⟩,fun x=>x.2.1⟩ (fun x=>by kernel_rfl)
def gZ(m:Int->M.ar->Option (M.aa×M.ar)):aI K:={f:=157,sh:=⟨[.ptr 0 0,iq0],[.el U.parser]⟩,R:=M.aa×M.ar,run:=fun x=>m x.1.2.1 x.2.1,dflt:=default,out:=fun r=>(Sh.enc D (.el U.Term) r.1,aY.encs D [.el U.parser] (r.2,()))}
def CY(m:Int->(List UInt8)->Int->(List (List UInt8))->(List M.aa)->(List M.ai)->Int->Bool->Option (Int×(List UInt8)×Int×(List M.ai)×Int×Bool×(List (List UInt8))×(List M.aa))):aI K:={f:=197,sh:=⟨[.ptr 0 0,.ptr 1 0,.ptr 2 0],[.box [iq0,.str,.own 3,.own 4],.box [.ptr 5 0],.box [iq0],.arr U.str,.arr U.Term,.box [.an U.Token,iq0,.bool]]⟩,R:=Int×(List UInt8)×Int×(List M.ai)×Int×Bool×(List (List UInt8))×(List M.aa),run:=fun x=>m x.2.1.1 x.2.1.2.1 x.2.2.2.1.1 x.2.2.2.2.1 x.2.2.2.2.2.1 x.2.2.2.2.2.2.1.1 x.2.2.2.2.2.2.1.2.1 x.2.2.2.2.2.2.1.2.2.1,dflt:=default,out:=fun r=>(Sh.enc D (.bD []) (),aY.encs D [.box [iq0,.str,.own 6,.own 7],.box [.ptr 5 0],.box [iq0],.dead,.dead,.box [.an U.Token,iq0,.bool],.arr U.str,.arr U.Term] ((r.1,(r.2.1,((),((),())))),(((),()),((r.2.2.1,()),((),((),((r.2.2.2.1,(r.2.2.2.2.1,(r.2.2.2.2.2.1,()))),(r.2.2.2.2.2.2.1,(r.2.2.2.2.2.2.2,())))))))))}
def aa0(bm:Int->M.ar->Option (M.aa×M.ar)):Cx K:={eZ with mode:=eC .plain [(157,.bh)],mv:=true,call:=callOf D [gZ bm],loop:=dZ []}
theorem apS(bm:Int->M.ar->Option (M.aa×M.ar))(eA:az (gZ bm)):aV (aa0 bm):=aZ au _ (af eA acW)
theorem HO(bm:Int->M.ar->Option (M.aa×M.ar))(eA:az (gZ bm)):az (CY (M.lI bm)):=f9 (cx:=aa0 bm) (fz:=true) au (apS bm eA) bp ⟨Tryz.func197,by kernel_rfl⟩ (aS (aN (by kernel_rfl))) ⟨⟨[.bD []],[.box [iq0,.str,.own 6,.own 7],.box [.ptr 5 0],.box [iq0],.dead,.dead,.box [.an U.Token,iq0,.bool],.arr U.str,.arr U.Term]⟩,fun x=>(x.2.1.1,x.2.1.2.1,x.2.2.2.1.1,x.2.2.2.2.2.2.1.1,x.2.2.2.2.2.2.1.2.1,x.2.2.2.2.2.2.1.2.2.1,x.2.2.2.2.2.2.2.1,x.2.2.2.2.2.2.2.2.1)⟩ (fun x=>rfl) (fun x=>by kernel_rfl)
def apT(y:((List M.ai)×Int×Bool×Int×(List UInt8)×Int×(List (List UInt8))×(List M.aa))⊕((List M.ai)×Int×Bool×Int×(List UInt8)×Int×(List (List UInt8))×(List M.aa))){R:Type}(k:KT R):R:=match y with|.inl a0=>kk k Ex.ret Ha ((),((a0.1,(a0.2.1,(a0.2.2.1,()))),((a0.2.2.2.1,(a0.2.2.2.2.1,((),((),())))),(((),()),((a0.2.2.2.2.2.1,()),((),((),(a0.2.2.2.2.2.2.1,(a0.2.2.2.2.2.2.2,())))))))))|.inr a1=>kk k (Ex.exit 0) Ha ((),((a1.1,(a1.2.1,(a1.2.2.1,()))),((a1.2.2.2.1,(a1.2.2.2.2.1,((),((),())))),(((),()),((a1.2.2.2.2.2.1,()),((),((),(a1.2.2.2.2.2.2.1,(a1.2.2.2.2.2.2.2,())))))))))
def apU:List (cH K (((List M.ai)×Int×Bool×Int×(List UInt8)×Int×(List (List UInt8))×(List M.aa))⊕((List M.ai)×Int×Bool×Int×(List UInt8)×Int×(List (List UInt8))×(List M.aa)))):=[⟨Ex.ret,Ha,fun x=>.inl (x.2.1.1,x.2.1.2.1,x.2.1.2.2.1,x.2.2.1.1,x.2.2.1.2.1,x.2.2.2.2.1.1,x.2.2.2.2.2.2.2.1,x.2.2.2.2.2.2.2.2.1)⟩,⟨(Ex.exit 0),Ha,fun x=>.inr ((x.2.1.1,x.2.1.2.1,x.2.1.2.2.1,x.2.2.1.1,x.2.2.1.2.1,x.2.2.2.2.1.1,x.2.2.2.2.2.2.2.1,x.2.2.2.2.2.2.2.2.1))⟩]
def aa1(bm:Int->M.ar->Option (M.aa×M.ar)):bG K:=bM D false 30 6 [0,1,2,6] [] Ze (fun x=>M.qJ bm x.1.2.1 ad x.1.2.2.2.1 x.2.1 x.2.2.1.1 x.2.2.1.2.1 x.2.2.2.2.1.1 x.2.2.2.2.2.2.2.1 x.2.2.2.2.2.2.2.2.1) apT
def aa2(m:Int->M.ar->Int->(List UInt8)->Int->(List (List UInt8))->(List M.aa)->Option (M.ar×Int×(List UInt8)×Int×(List (List UInt8))×(List M.aa))):aI K:={f:=158,sh:=⟨[.ptr 0 0,iq0,.fn 197 [.ptr 1 0,.ptr 2 0,.ptr 3 0]],[.el U.parser,.box [iq0,.str,.own 4,.own 5],.box [.ptr 0 0],.box [iq0],.arr U.str,.arr U.Term]⟩,R:=M.ar×Int×(List UInt8)×Int×(List (List UInt8))×(List M.aa),run:=fun x=>m x.1.2.1 x.2.1 x.2.2.1.1 x.2.2.1.2.1 x.2.2.2.2.1.1 x.2.2.2.2.2.1 x.2.2.2.2.2.2.1,dflt:=default,out:=fun r=>(Sh.enc D (.bD []) (),aY.encs D [.el U.parser,.box [iq0,.str,.own 6,.own 7],.box [.ptr 0 0],.box [iq0],.dead,.dead,.arr U.str,.arr U.Term] (r.1,((r.2.1,(r.2.2.1,((),((),())))),(((),()),((r.2.2.2.1,()),((),((),(r.2.2.2.2.1,(r.2.2.2.2.2,())))))))))}
def HQ(bm:Int->M.ar->Option (M.aa×M.ar)):Cx K:={eZ with mode:=eC .plain [(52,.bh),(197,.bh)],mv:=true,call:=callOf D [CY (M.lI bm),mo M.eI],loop:=dZ [(1,aa1 bm)]}
theorem aa3(bm:Int->M.ar->Option (M.aa×M.ar))(eA:az (gZ bm)):aV (HQ bm):=aZ au _ (af (HO bm eA) (af nc acW))
theorem apV(bm:Int->M.ar->Option (M.aa×M.ar))(eA:az (gZ bm)):bH (HQ bm) (bC (bL Tryz.f158) 0) (aa1 bm):=bN (cx:=HQ bm) (sh:=Ze) (run:=fun n x=>M.qJ bm x.1.2.1 n x.1.2.2.2.1 x.2.1 x.2.2.1.1 x.2.2.1.2.1 x.2.2.2.2.1.1 x.2.2.2.2.2.2.2.1 x.2.2.2.2.2.2.2.2.1) (bK:=apU) au (aa3 bm eA) bp (aN (by kernel_rfl)) (fun _=>rfl) (fun m x=>by kernel_rfl) (af ⟨df,fun _ _ _=>rfl⟩ (af ⟨bP,fun _ _ _=>rfl⟩ acW)) false ad
theorem apW(bm:Int->M.ar->Option (M.aa×M.ar))(eA:az (gZ bm)):az (aa2 (M.xy bm)):=f9 (cx:=HQ bm) (fz:=true) au (aa3 bm eA) bp ⟨Tryz.func158,by kernel_rfl⟩ (aS (bU 1 (by kernel_rfl) (bY (.mk (by kernel_rfl) (apV bm eA))))) ⟨ML,fun x=>(x.2.1,x.2.2.1.1,x.2.2.1.2.1,x.2.2.2.2.1.1,x.2.2.2.2.2.2.2.1,x.2.2.2.2.2.2.2.2.1)⟩ (fun x=>rfl) (fun x=>by kernel_rfl)
def aa4(m:(List UInt8)->Option Bool):aI K:=cB 193 zs2 (fun x=>m x.1.1)
def aa5:Cx K:=bw [(99,.plain),(194,.plain)] [MS M.wc,M6 M.qH] []
theorem apX:aV aa5:=aZ au _ (af ZP (af aaX acW))
theorem apY:az (aa4 (M.Aj)):=ba (cx:=aa5) true apX Tryz.func193 (aS (aN (by kernel_rfl))) ⟨zs0,fun x=>x.1.1⟩ (fun x=>by kernel_rfl)
def aa6(m:Int->M.ar->Option ((List UInt8)×M.ar)):aI K:={f:=98,sh:=⟨[.ptr 0 0,iq0,.fn 193 []],[.el U.parser]⟩,R:=(List UInt8)×M.ar,run:=fun x=>m x.1.2.1 x.2.1,dflt:=default,out:=fun r=>(Sh.enc D (.str) r.1,aY.encs D [.el U.parser] (r.2,()))}
def aa7:Cx K:=bw [(193,.plain)] [aa4 M.Aj] []
theorem apZ:aV aa7:=aZ au _ (af apY acW)
theorem ap0:az (aa6 (M.Ak)):=ba (cx:=aa7) true apZ Tryz.func98 (aS (aN (by kernel_rfl))) ⟨yM,fun x=>(x.1.1,x.2.1)⟩ (fun x=>by kernel_rfl)
def HS(m:M.ar->Option ((List UInt8)×M.ar)):aI K:={f:=156,sh:=tH,R:=(List UInt8)×M.ar,run:=fun x=>m x.2.1,dflt:=default,out:=fun r=>(Sh.enc D (.str) r.1,aY.encs D [.el U.parser] (r.2,()))}
def aa8:Cx K:=bw [(98,.bh)] [aa6 M.Ak] []
theorem ap1:aV aa8:=aZ au _ (af ap0 acW)
theorem M7:az (HS (M.mN)):=ba (cx:=aa8) true ap1 Tryz.func156 (aS (aN (by kernel_rfl))) ⟨yM,fun x=>(x.1.1,x.2.1)⟩ (fun x=>by kernel_rfl)
def ap2(y:Int×(List UInt8)×(List (List UInt8))×(List M.aa)){R:Type}(k:KT R):R:=match y with|a0=>kk k (Ex.exit 0) Zf ((),((a0.1,(a0.2.1,((),((),())))),((),((),(a0.2.2.1,(a0.2.2.2,()))))))
def ap3:List (cH K (Int×(List UInt8)×(List (List UInt8))×(List M.aa))):=[⟨(Ex.exit 0),Zf,fun x=>(x.2.1.1,x.2.1.2.1,x.2.2.2.2.1,x.2.2.2.2.2.1)⟩]
def aa9:bG K:=bM D false 46 3 [1] [] Zg (fun x=>M.lJ x.2.1.1 x.2.1.2.1 x.2.2.2.2.1 ad x.2.2.2.2.2.1) ap2
def aba(m:M.ar->Int->(List UInt8)->Int->(List (List UInt8))->(List M.aa)->Option (M.ar×Int×(List UInt8)×Int×(List (List UInt8))×(List M.aa))):aI K:={f:=198,sh:=Zh,R:=M.ar×Int×(List UInt8)×Int×(List (List UInt8))×(List M.aa),run:=fun x=>m x.2.1 x.2.2.1.1 x.2.2.1.2.1 x.2.2.2.2.1.1 x.2.2.2.2.2.1 x.2.2.2.2.2.2.1,dflt:=default,out:=fun r=>(Sh.enc D (.bD []) (),aY.encs D [.el U.parser,.box [iq0,.str,.own 6,.own 7],.box [.ptr 0 0],.box [iq0],.dead,.dead,.arr U.str,.arr U.Term] (r.1,((r.2.1,(r.2.2.1,((),((),())))),(((),()),((r.2.2.2.1,()),((),((),(r.2.2.2.2.1,(r.2.2.2.2.2,())))))))))}
def HU(bm:Int->M.ar->Option (M.aa×M.ar)):Cx K:={eZ with mode:=eC .plain [(52,.bh),(49,.bh),(197,.bh)],mv:=true,call:=callOf D [mo M.eI,CY (M.lI bm),pR M.dj],loop:=dZ [(7,aa9)]}
theorem abb(bm:Int->M.ar->Option (M.aa×M.ar))(eA:az (gZ bm)):aV (HU bm):=aZ au _ (af nc (af (HO bm eA) (af ru acW)))
theorem ap4(bm:Int->M.ar->Option (M.aa×M.ar))(eA:az (gZ bm)):bH (HU bm) (bC (bL Tryz.f198) 0) aa9:=bN (cx:=HU bm) (sh:=Zg) (run:=fun n x=>M.lJ x.2.1.1 x.2.1.2.1 x.2.2.2.2.1 n x.2.2.2.2.2.1) (bK:=ap3) au (abb bm eA) bp (aN (by kernel_rfl)) (fun _=>rfl) (fun m x=>by kernel_rfl) (af ⟨bP,fun _ _ _=>rfl⟩ acW) false ad
theorem ap5(bm:Int->M.ar->Option (M.aa×M.ar))(eA:az (gZ bm)):az (aba (M.Ao bm)):=f9 (cx:=HU bm) (fz:=true) au (abb bm eA) bp ⟨Tryz.func198,by kernel_rfl⟩ (aS (bU 1 (by kernel_rfl) (bY (.mk (by kernel_rfl) (ap4 bm eA))))) ⟨ML,fun x=>(x.2.1,x.2.2.1.1,x.2.2.1.2.1,x.2.2.2.2.1.1,x.2.2.2.2.2.2.2.1,x.2.2.2.2.2.2.2.2.1)⟩ (fun x=>rfl) (fun x=>by kernel_rfl)
def abd(m:M.ar->Int->(List UInt8)->Int->(List (List UInt8))->(List M.aa)->Option (M.ar×Int×(List UInt8)×Int×(List (List UInt8))×(List M.aa))):aI K:={f:=200,sh:=Zh,R:=M.ar×Int×(List UInt8)×Int×(List (List UInt8))×(List M.aa),run:=fun x=>m x.2.1 x.2.2.1.1 x.2.2.1.2.1 x.2.2.2.2.1.1 x.2.2.2.2.2.1 x.2.2.2.2.2.2.1,dflt:=default,out:=fun r=>(Sh.enc D (.bD []) (),aY.encs D [.el U.parser,.box [iq0,.str,.own 6,.own 7],.box [.ptr 0 0],.box [iq0],.dead,.dead,.arr U.str,.arr U.Term] (r.1,((r.2.1,(r.2.2.1,((),((),())))),(((),()),((r.2.2.2.1,()),((),((),(r.2.2.2.2.1,(r.2.2.2.2.2,())))))))))}
def abe(bm:Int->M.ar->Option (M.aa×M.ar)):Cx K:={eZ with mode:=eC .plain [(50,.bh),(49,.bh),(52,.bh),(197,.bh)],mv:=true,call:=callOf D [rq M.gJ,pR M.dj,CY (M.lI bm),mo M.eI],loop:=dZ []}
theorem ap6(bm:Int->M.ar->Option (M.aa×M.ar))(eA:az (gZ bm)):aV (abe bm):=aZ au _ (af tV (af ru (af (HO bm eA) (af nc acW))))
theorem ap7(bm:Int->M.ar->Option (M.aa×M.ar))(eA:az (gZ bm)):az (abd (M.xz bm)):=f9 (cx:=abe bm) (fz:=true) au (ap6 bm eA) bp ⟨Tryz.func200,by kernel_rfl⟩ (aS (aN (by kernel_rfl))) ⟨ML,fun x=>(x.2.1,x.2.2.1.1,x.2.2.1.2.1,x.2.2.2.2.1.1,x.2.2.2.2.2.2.2.1,x.2.2.2.2.2.2.2.2.1)⟩ (fun x=>rfl) (fun x=>by kernel_rfl)
def abf(m:Int->(List UInt8)->(List M.ai)->Int->Bool->(List (List UInt8))->(List M.aa)->Int->Option (Int×(List UInt8)×(List M.ai)×Int×Bool×Int×(List (List UInt8))×(List M.aa))):aI K:={f:=199,sh:=⟨[.ptr 0 0,.ptr 1 0,.ptr 2 0],[.box [.ptr 3 0],.box [iq0,.str,.own 4,.own 5],.box [.fn 197 [.ptr 1 0,.ptr 0 0,.ptr 6 0]],.box [.an U.Token,iq0,.bool],.arr U.str,.arr U.Term,.box [iq0]]⟩,R:=Int×(List UInt8)×(List M.ai)×Int×Bool×Int×(List (List UInt8))×(List M.aa),run:=fun x=>m x.2.2.1.1 x.2.2.1.2.1 x.2.2.2.2.1.1 x.2.2.2.2.1.2.1 x.2.2.2.2.1.2.2.1 x.2.2.2.2.2.1 x.2.2.2.2.2.2.1 x.2.2.2.2.2.2.2.1.1,dflt:=default,out:=fun r=>(Sh.enc D (.bD []) (),aY.encs D [.box [.ptr 3 0],.box [iq0,.str,.own 7,.own 8],.box [.fn 197 [.ptr 1 0,.ptr 0 0,.ptr 6 0]],.box [.an U.Token,iq0,.bool],.dead,.dead,.box [iq0],.arr U.str,.arr U.Term] (((),()),((r.1,(r.2.1,((),((),())))),((((),((),((),()))),()),((r.2.2.1,(r.2.2.2.1,(r.2.2.2.2.1,()))),((),((),((r.2.2.2.2.2.1,()),(r.2.2.2.2.2.2.1,(r.2.2.2.2.2.2.2,()))))))))))}
def abg(bm:Int->M.ar->Option (M.aa×M.ar)):Cx K:={eZ with mode:=eC .plain [(200,.bh)],mv:=true,call:=callOf D [abd (M.xz bm)],loop:=dZ []}
theorem ap8(bm:Int->M.ar->Option (M.aa×M.ar))(eA:az (gZ bm)):aV (abg bm):=aZ au _ (af (ap7 bm eA) acW)
theorem ap9(bm:Int->M.ar->Option (M.aa×M.ar))(eA:az (gZ bm)):az (abf (M.EH bm)):=f9 (cx:=abg bm) (fz:=true) au (ap8 bm eA) bp ⟨Tryz.func199,by kernel_rfl⟩ (aS (aN (by kernel_rfl))) ⟨⟨[.bD []],[.box [.ptr 3 0],.box [iq0,.str,.own 7,.own 8],.box [.fn 197 [.ptr 1 0,.ptr 0 0,.ptr 6 0]],.box [.an U.Token,iq0,.bool],.dead,.dead,.box [iq0],.arr U.str,.arr U.Term]⟩,fun x=>(x.2.2.1.1,x.2.2.1.2.1,x.2.2.2.2.1.1,x.2.2.2.2.1.2.1,x.2.2.2.2.1.2.2.1,x.2.2.2.2.2.2.2.1.1,x.2.2.2.2.2.2.2.2.1,x.2.2.2.2.2.2.2.2.2.1)⟩ (fun x=>rfl) (fun x=>by kernel_rfl)
def aqa(y:((List M.ai)×Int×Bool×Int×(List UInt8)×Int×(List (List UInt8))×(List M.aa))⊕((List M.ai)×Int×Bool×Int×(List UInt8)×Int×(List (List UInt8))×(List M.aa))){R:Type}(k:KT R):R:=match y with|.inl a0=>kk k Ex.ret He ((),((a0.1,(a0.2.1,(a0.2.2.1,()))),(((),()),((a0.2.2.2.1,(a0.2.2.2.2.1,((),((),())))),((((),((),((),()))),()),((),((),((a0.2.2.2.2.2.1,()),(a0.2.2.2.2.2.2.1,(a0.2.2.2.2.2.2.2,()))))))))))|.inr a1=>kk k (Ex.exit 0) He ((),((a1.1,(a1.2.1,(a1.2.2.1,()))),(((),()),((a1.2.2.2.1,(a1.2.2.2.2.1,((),((),())))),((((),((),((),()))),()),((),((),((a1.2.2.2.2.2.1,()),(a1.2.2.2.2.2.2.1,(a1.2.2.2.2.2.2.2,()))))))))))
def aqb:List (cH K (((List M.ai)×Int×Bool×Int×(List UInt8)×Int×(List (List UInt8))×(List M.aa))⊕((List M.ai)×Int×Bool×Int×(List UInt8)×Int×(List (List UInt8))×(List M.aa)))):=[⟨Ex.ret,He,fun x=>.inl (x.2.1.1,x.2.1.2.1,x.2.1.2.2.1,x.2.2.2.1.1,x.2.2.2.1.2.1,x.2.2.2.2.2.2.2.1.1,x.2.2.2.2.2.2.2.2.1,x.2.2.2.2.2.2.2.2.2.1)⟩,⟨(Ex.exit 0),He,fun x=>.inr ((x.2.1.1,x.2.1.2.1,x.2.1.2.2.1,x.2.2.2.1.1,x.2.2.2.1.2.1,x.2.2.2.2.2.2.2.1.1,x.2.2.2.2.2.2.2.2.1,x.2.2.2.2.2.2.2.2.2.1))⟩]
def abh(bm:Int->M.ar->Option (M.aa×M.ar)):bG K:=bM D false 30 7 [0,1,2,6] [] Zi (fun x=>M.qK bm x.1.2.1 ad x.1.2.2.2.1 x.2.1 x.2.2.2.1.1 x.2.2.2.1.2.1 x.2.2.2.2.2.2.2.1.1 x.2.2.2.2.2.2.2.2.1 x.2.2.2.2.2.2.2.2.2.1) aqa
def abj(m:Int->M.ar->Int->(List UInt8)->(List (List UInt8))->(List M.aa)->Int->Option (M.ar×Int×(List UInt8)×Int×(List (List UInt8))×(List M.aa))):aI K:={f:=158,sh:=⟨[.ptr 0 0,iq0,.fn 199 [.ptr 1 0,.ptr 2 0,.ptr 3 0]],[.el U.parser,.box [.ptr 0 0],.box [iq0,.str,.own 4,.own 5],.box [.fn 197 [.ptr 2 0,.ptr 1 0,.ptr 6 0]],.arr U.str,.arr U.Term,.box [iq0]]⟩,R:=M.ar×Int×(List UInt8)×Int×(List (List UInt8))×(List M.aa),run:=fun x=>m x.1.2.1 x.2.1 x.2.2.2.1.1 x.2.2.2.1.2.1 x.2.2.2.2.2.1 x.2.2.2.2.2.2.1 x.2.2.2.2.2.2.2.1.1,dflt:=default,out:=fun r=>(Sh.enc D (.bD []) (),aY.encs D [.el U.parser,.box [.ptr 0 0],.box [iq0,.str,.own 7,.own 8],.box [.fn 197 [.ptr 2 0,.ptr 1 0,.ptr 6 0]],.dead,.dead,.box [iq0],.arr U.str,.arr U.Term] (r.1,(((),()),((r.2.1,(r.2.2.1,((),((),())))),((((),((),((),()))),()),((),((),((r.2.2.2.1,()),(r.2.2.2.2.1,(r.2.2.2.2.2,()))))))))))}
def HV(bm:Int->M.ar->Option (M.aa×M.ar)):Cx K:={eZ with mode:=eC .plain [(52,.bh),(199,.bh)],mv:=true,call:=callOf D [abf (M.EH bm),mo M.eI],loop:=dZ [(1,abh bm)]}
theorem abk(bm:Int->M.ar->Option (M.aa×M.ar))(eA:az (gZ bm)):aV (HV bm):=aZ au _ (af (ap9 bm eA) (af nc acW))
theorem aqc(bm:Int->M.ar->Option (M.aa×M.ar))(eA:az (gZ bm)):bH (HV bm) (bC (bL Tryz.f158) 0) (abh bm):=bN (cx:=HV bm) (sh:=Zi) (run:=fun n x=>M.qK bm x.1.2.1 n x.1.2.2.2.1 x.2.1 x.2.2.2.1.1 x.2.2.2.1.2.1 x.2.2.2.2.2.2.2.1.1 x.2.2.2.2.2.2.2.2.1 x.2.2.2.2.2.2.2.2.2.1) (bK:=aqb) au (abk bm eA) bp (aN (by kernel_rfl)) (fun _=>rfl) (fun m x=>by kernel_rfl) (af ⟨df,fun _ _ _=>rfl⟩ (af ⟨bP,fun _ _ _=>rfl⟩ acW)) false ad
theorem aqd(bm:Int->M.ar->Option (M.aa×M.ar))(eA:az (gZ bm)):az (abj (M.xA bm)):=f9 (cx:=HV bm) (fz:=true) au (abk bm eA) bp ⟨Tryz.func158,by kernel_rfl⟩ (aS (bU 1 (by kernel_rfl) (bY (.mk (by kernel_rfl) (aqc bm eA))))) ⟨⟨[.bD []],[.el U.parser,.box [.ptr 0 0],.box [iq0,.str,.own 7,.own 8],.box [.fn 197 [.ptr 2 0,.ptr 1 0,.ptr 6 0]],.dead,.dead,.box [iq0],.arr U.str,.arr U.Term]⟩,fun x=>(x.2.1,x.2.2.2.1.1,x.2.2.2.1.2.1,x.2.2.2.2.2.2.2.1.1,x.2.2.2.2.2.2.2.2.1,x.2.2.2.2.2.2.2.2.2.1)⟩ (fun x=>rfl) (fun x=>by kernel_rfl)
def abl(bm:Int->M.ar->Option (M.aa×M.ar)):Cx K:=bw [(50,.bh),(194,.plain),(196,.jN),(195,.plain),(49,.bh),(158,.bh),(156,.bh),(198,.bh),(197,.bh)] [rq M.gJ,M6 M.qH,FU M.fW,MV M.va,pR M.dj,CY (M.lI bm),aa2 (M.xy bm),HS M.mN,aba (M.Ao bm),abj (M.xA bm)] []
theorem aqe(bm:Int->M.ar->Option (M.aa×M.ar))(eA:az (gZ bm)):aV (abl bm):=aZ au _ (af tV (af aaX (af Mc (af Z6 (af ru (af (HO bm eA) (af (apW bm eA) (af M7 (af (ap5 bm eA) (af (aqd bm eA) acW))))))))))
theorem aqf(bm:Int->M.ar->Option (M.aa×M.ar))(eA:az (gZ bm)):az (gZ (M.sB bm)):=f9 (cx:=abl bm) (fz:=true) au (aqe bm eA) bp ⟨Tryz.func157,by kernel_rfl⟩ (aS (aN (by kernel_rfl))) ⟨⟨[.el U.Term],[.el U.parser]⟩,fun x=>(x.1.1,x.2.1)⟩ (fun x=>rfl) (fun x=>by kernel_rfl)
theorem abm:∀n,az (gZ (M.ve n))|0=>nE fun _=>rfl|n+1=>aqf (M.ve n) (abm n)
theorem M8:az (gZ (M.qM)):=abm ad
def abn(m:Int->M.ar->Option ((List UInt8)×M.ar)):aI K:={f:=98,sh:=⟨[.ptr 0 0,iq0,.fn 100 []],[.el U.parser]⟩,R:=(List UInt8)×M.ar,run:=fun x=>m x.1.2.1 x.2.1,dflt:=default,out:=fun r=>(Sh.enc D (.str) r.1,aY.encs D [.el U.parser] (r.2,()))}
def abo:Cx K:=bw [(100,.plain)] [Z2 M.CW] []
theorem aqg:aV abo:=aZ au _ (af aoP acW)
theorem aqh:az (abn (M.Am)):=ba (cx:=abo) true aqg Tryz.func98 (aS (aN (by kernel_rfl))) ⟨yM,fun x=>(x.1.1,x.2.1)⟩ (fun x=>by kernel_rfl)
def M9(m:M.ar->Option ((List UInt8)×M.ar)):aI K:={f:=51,sh:=tH,R:=(List UInt8)×M.ar,run:=fun x=>m x.2.1,dflt:=default,out:=fun r=>(Sh.enc D (.str) r.1,aY.encs D [.el U.parser] (r.2,()))}
def abp:Cx K:=bw [(98,.bh)] [abn M.Am] []
theorem aqi:aV abp:=aZ au _ (af aqh acW)
theorem abq:az (M9 (M.sx)):=ba (cx:=abp) true aqi Tryz.func51 (aS (aN (by kernel_rfl))) ⟨yM,fun x=>(x.1.1,x.2.1)⟩ (fun x=>by kernel_rfl)
def abr(m:Int->(List UInt8)->Int->(List UInt8)->Bool->(List UInt8)->(List UInt8)->(List UInt8)->(List M.ai)->Int->Bool->(List (List UInt8))->(List M.aa)->(List M.ax)->(List M.aK)->Option (Int×(List UInt8)×Int×(List UInt8)×Bool×(List UInt8)×(List UInt8)×(List UInt8)×(List M.ai)×Int×Bool×(List (List UInt8))×(List M.aa)×(List M.ax)×(List M.aK))):aI K:={f:=192,sh:=Zj,R:=Int×(List UInt8)×Int×(List UInt8)×Bool×(List UInt8)×(List UInt8)×(List UInt8)×(List M.ai)×Int×Bool×(List (List UInt8))×(List M.aa)×(List M.ax)×(List M.aK),run:=fun x=>m x.2.2.1.1 x.2.2.1.2.1 x.2.2.1.2.2.1 x.2.2.1.2.2.2.1 x.2.2.1.2.2.2.2.2.2.2.1 x.2.2.1.2.2.2.2.2.2.2.2.1 x.2.2.1.2.2.2.2.2.2.2.2.2.1 x.2.2.1.2.2.2.2.2.2.2.2.2.2.1 x.2.2.2.1.1 x.2.2.2.1.2.1 x.2.2.2.1.2.2.1 x.2.2.2.2.1 x.2.2.2.2.2.1 x.2.2.2.2.2.2.1 x.2.2.2.2.2.2.2.1,dflt:=default,out:=fun r=>(Sh.enc D (.bD []) (),aY.encs D [.box [.ptr 2 0],.box [iq0,.str,iq0,.str,.own 7,.own 8,.own 9,.bool,.str,.str,.str,.own 10],.box [.an U.Token,iq0,.bool],.dead,.dead,.dead,.dead,.arr U.str,.arr U.Term,.arr U.cZ,.arr U.dc] (((),()),((r.1,(r.2.1,(r.2.2.1,(r.2.2.2.1,((),((),((),(r.2.2.2.2.1,(r.2.2.2.2.2.1,(r.2.2.2.2.2.2.1,(r.2.2.2.2.2.2.2.1,((),())))))))))))),((r.2.2.2.2.2.2.2.2.1,(r.2.2.2.2.2.2.2.2.2.1,(r.2.2.2.2.2.2.2.2.2.2.1,()))),((),((),((),((),(r.2.2.2.2.2.2.2.2.2.2.2.1,(r.2.2.2.2.2.2.2.2.2.2.2.2.1,(r.2.2.2.2.2.2.2.2.2.2.2.2.2.1,(r.2.2.2.2.2.2.2.2.2.2.2.2.2.2,()))))))))))))}
def abt:Cx K:={eZ with mode:=eC .plain [(50,.bh),(49,.bh),(157,.bh)],mv:=true,call:=callOf D [rq M.gJ,pR M.dj,gZ M.qM],loop:=dZ []}
theorem aqj:aV abt:=aZ au _ (af tV (af ru (af M8 acW)))
theorem aqk:az (abr (M.Ar)):=ba (cx:=abt) true aqj Tryz.func192 (aS (aN (by kernel_rfl))) ⟨Zk,fun x=>(x.2.2.1.1,x.2.2.1.2.1,x.2.2.1.2.2.1,x.2.2.1.2.2.2.1,x.2.2.1.2.2.2.2.2.2.2.1,x.2.2.1.2.2.2.2.2.2.2.2.1,x.2.2.1.2.2.2.2.2.2.2.2.2.1,x.2.2.1.2.2.2.2.2.2.2.2.2.2.1,x.2.2.2.1.1,x.2.2.2.1.2.1,x.2.2.2.1.2.2.1,x.2.2.2.2.2.2.2.2.1,x.2.2.2.2.2.2.2.2.2.1,x.2.2.2.2.2.2.2.2.2.2.1,x.2.2.2.2.2.2.2.2.2.2.2.1)⟩ (fun x=>by kernel_rfl)
def abu(y:((List M.ai)×Int×Bool×Int×(List UInt8)×Int×(List UInt8)×Bool×(List UInt8)×(List UInt8)×(List UInt8)×(List (List UInt8))×(List M.aa)×(List M.ax)×(List M.aK))⊕((List M.ai)×Int×Bool×Int×(List UInt8)×Int×(List UInt8)×Bool×(List UInt8)×(List UInt8)×(List UInt8)×(List (List UInt8))×(List M.aa)×(List M.ax)×(List M.aK))){R:Type}(k:KT R):R:=match y with|.inl a0=>kk k Ex.ret G6 ((),((a0.1,(a0.2.1,(a0.2.2.1,()))),(((),()),((a0.2.2.2.1,(a0.2.2.2.2.1,(a0.2.2.2.2.2.1,(a0.2.2.2.2.2.2.1,((),((),((),(a0.2.2.2.2.2.2.2.1,(a0.2.2.2.2.2.2.2.2.1,(a0.2.2.2.2.2.2.2.2.2.1,(a0.2.2.2.2.2.2.2.2.2.2.1,((),())))))))))))),((),((),((),((),(a0.2.2.2.2.2.2.2.2.2.2.2.1,(a0.2.2.2.2.2.2.2.2.2.2.2.2.1,(a0.2.2.2.2.2.2.2.2.2.2.2.2.2.1,(a0.2.2.2.2.2.2.2.2.2.2.2.2.2.2,()))))))))))))|.inr a1=>kk k (Ex.exit 0) G6 ((),((a1.1,(a1.2.1,(a1.2.2.1,()))),(((),()),((a1.2.2.2.1,(a1.2.2.2.2.1,(a1.2.2.2.2.2.1,(a1.2.2.2.2.2.2.1,((),((),((),(a1.2.2.2.2.2.2.2.1,(a1.2.2.2.2.2.2.2.2.1,(a1.2.2.2.2.2.2.2.2.2.1,(a1.2.2.2.2.2.2.2.2.2.2.1,((),())))))))))))),((),((),((),((),(a1.2.2.2.2.2.2.2.2.2.2.2.1,(a1.2.2.2.2.2.2.2.2.2.2.2.2.1,(a1.2.2.2.2.2.2.2.2.2.2.2.2.2.1,(a1.2.2.2.2.2.2.2.2.2.2.2.2.2.2,()))))))))))))
def abv:List (cH K (((List M.ai)×Int×Bool×Int×(List UInt8)×Int×(List UInt8)×Bool×(List UInt8)×(List UInt8)×(List UInt8)×(List (List UInt8))×(List M.aa)×(List M.ax)×(List M.aK))⊕((List M.ai)×Int×Bool×Int×(List UInt8)×Int×(List UInt8)×Bool×(List UInt8)×(List UInt8)×(List UInt8)×(List (List UInt8))×(List M.aa)×(List M.ax)×(List M.aK)))):=[⟨Ex.ret,G6,fun x=>.inl (x.2.1.1,x.2.1.2.1,x.2.1.2.2.1,x.2.2.2.1.1,x.2.2.2.1.2.1,x.2.2.2.1.2.2.1,x.2.2.2.1.2.2.2.1,x.2.2.2.1.2.2.2.2.2.2.2.1,x.2.2.2.1.2.2.2.2.2.2.2.2.1,x.2.2.2.1.2.2.2.2.2.2.2.2.2.1,x.2.2.2.1.2.2.2.2.2.2.2.2.2.2.1,x.2.2.2.2.2.2.2.2.1,x.2.2.2.2.2.2.2.2.2.1,x.2.2.2.2.2.2.2.2.2.2.1,x.2.2.2.2.2.2.2.2.2.2.2.1)⟩,⟨(Ex.exit 0),G6,fun x=>.inr ((x.2.1.1,x.2.1.2.1,x.2.1.2.2.1,x.2.2.2.1.1,x.2.2.2.1.2.1,x.2.2.2.1.2.2.1,x.2.2.2.1.2.2.2.1,x.2.2.2.1.2.2.2.2.2.2.2.1,x.2.2.2.1.2.2.2.2.2.2.2.2.1,x.2.2.2.1.2.2.2.2.2.2.2.2.2.1,x.2.2.2.1.2.2.2.2.2.2.2.2.2.2.1,x.2.2.2.2.2.2.2.2.1,x.2.2.2.2.2.2.2.2.2.1,x.2.2.2.2.2.2.2.2.2.2.1,x.2.2.2.2.2.2.2.2.2.2.2.1))⟩]
def abw:bG K:=bM D false 30 7 [0,1,2,6] [] Zl (fun x=>M.sE x.1.2.1 ad x.1.2.2.2.1 x.2.1 x.2.2.2.1.1 x.2.2.2.1.2.1 x.2.2.2.1.2.2.1 x.2.2.2.1.2.2.2.1 x.2.2.2.1.2.2.2.2.2.2.2.1 x.2.2.2.1.2.2.2.2.2.2.2.2.1 x.2.2.2.1.2.2.2.2.2.2.2.2.2.1 x.2.2.2.1.2.2.2.2.2.2.2.2.2.2.1 x.2.2.2.2.2.2.2.2.1 x.2.2.2.2.2.2.2.2.2.1 x.2.2.2.2.2.2.2.2.2.2.1 x.2.2.2.2.2.2.2.2.2.2.2.1) abu
def abx(m:Int->M.ar->Int->(List UInt8)->Int->(List UInt8)->Bool->(List UInt8)->(List UInt8)->(List UInt8)->(List (List UInt8))->(List M.aa)->(List M.ax)->(List M.aK)->Option (M.ar×Int×(List UInt8)×Int×(List UInt8)×Bool×(List UInt8)×(List UInt8)×(List UInt8)×(List (List UInt8))×(List M.aa)×(List M.ax)×(List M.aK))):aI K:={f:=158,sh:=⟨[.ptr 0 0,iq0,.fn 192 [.ptr 1 0,.ptr 2 0]],[.el U.parser,.box [.ptr 0 0],.box [iq0,.str,iq0,.str,.own 3,.own 4,.own 5,.bool,.str,.str,.str,.own 6],.arr U.str,.arr U.Term,.arr U.cZ,.arr U.dc]⟩,R:=M.ar×Int×(List UInt8)×Int×(List UInt8)×Bool×(List UInt8)×(List UInt8)×(List UInt8)×(List (List UInt8))×(List M.aa)×(List M.ax)×(List M.aK),run:=fun x=>m x.1.2.1 x.2.1 x.2.2.2.1.1 x.2.2.2.1.2.1 x.2.2.2.1.2.2.1 x.2.2.2.1.2.2.2.1 x.2.2.2.1.2.2.2.2.2.2.2.1 x.2.2.2.1.2.2.2.2.2.2.2.2.1 x.2.2.2.1.2.2.2.2.2.2.2.2.2.1 x.2.2.2.1.2.2.2.2.2.2.2.2.2.2.1 x.2.2.2.2.1 x.2.2.2.2.2.1 x.2.2.2.2.2.2.1 x.2.2.2.2.2.2.2.1,dflt:=default,out:=fun r=>(Sh.enc D (.bD []) (),aY.encs D [.el U.parser,.box [.ptr 0 0],.box [iq0,.str,iq0,.str,.own 7,.own 8,.own 9,.bool,.str,.str,.str,.own 10],.dead,.dead,.dead,.dead,.arr U.str,.arr U.Term,.arr U.cZ,.arr U.dc] (r.1,(((),()),((r.2.1,(r.2.2.1,(r.2.2.2.1,(r.2.2.2.2.1,((),((),((),(r.2.2.2.2.2.1,(r.2.2.2.2.2.2.1,(r.2.2.2.2.2.2.2.1,(r.2.2.2.2.2.2.2.2.1,((),())))))))))))),((),((),((),((),(r.2.2.2.2.2.2.2.2.2.1,(r.2.2.2.2.2.2.2.2.2.2.1,(r.2.2.2.2.2.2.2.2.2.2.2.1,(r.2.2.2.2.2.2.2.2.2.2.2.2,()))))))))))))}
def HY:Cx K:={eZ with mode:=eC .plain [(52,.bh),(192,.bh)],mv:=true,call:=callOf D [abr M.Ar,mo M.eI],loop:=dZ [(1,abw)]}
theorem aby:aV HY:=aZ au _ (af aqk (af nc acW))
theorem aql:bH HY (bC (bL Tryz.f158) 0) abw:=bN (cx:=HY) (sh:=Zl) (run:=fun n x=>M.sE x.1.2.1 n x.1.2.2.2.1 x.2.1 x.2.2.2.1.1 x.2.2.2.1.2.1 x.2.2.2.1.2.2.1 x.2.2.2.1.2.2.2.1 x.2.2.2.1.2.2.2.2.2.2.2.1 x.2.2.2.1.2.2.2.2.2.2.2.2.1 x.2.2.2.1.2.2.2.2.2.2.2.2.2.1 x.2.2.2.1.2.2.2.2.2.2.2.2.2.2.1 x.2.2.2.2.2.2.2.2.1 x.2.2.2.2.2.2.2.2.2.1 x.2.2.2.2.2.2.2.2.2.2.1 x.2.2.2.2.2.2.2.2.2.2.2.1) (bK:=abv) au aby bp (aN (by kernel_rfl)) (fun _=>rfl) (fun m x=>by kernel_rfl) (af ⟨df,fun _ _ _=>rfl⟩ (af ⟨bP,fun _ _ _=>rfl⟩ acW)) false ad
theorem aqm:az (abx (M.xE)):=ba (cx:=HY) true aby Tryz.func158 (aS (bU 1 (by kernel_rfl) (bY (.mk (by kernel_rfl) aql)))) ⟨Zm,fun x=>(x.2.1,x.2.2.2.1.1,x.2.2.2.1.2.1,x.2.2.2.1.2.2.1,x.2.2.2.1.2.2.2.1,x.2.2.2.1.2.2.2.2.2.2.2.1,x.2.2.2.1.2.2.2.2.2.2.2.2.1,x.2.2.2.1.2.2.2.2.2.2.2.2.2.1,x.2.2.2.1.2.2.2.2.2.2.2.2.2.2.1,x.2.2.2.2.2.2.2.2.1,x.2.2.2.2.2.2.2.2.2.1,x.2.2.2.2.2.2.2.2.2.2.1,x.2.2.2.2.2.2.2.2.2.2.2.1)⟩ (fun x=>by kernel_rfl)
def abz(m:(List UInt8)->M.ar->Option (M.ah×M.ar)):aI K:={f:=155,sh:=G9,R:=M.ah×M.ar,run:=fun x=>m x.1.2.1 x.2.1,dflt:=default,out:=fun r=>(Sh.enc D (.el U.Item) r.1,aY.encs D [.el U.parser] (r.2,()))}
def abA:Cx K:=bw [(49,.bh),(52,.bh),(101,.bh),(158,.bh),(157,.bh)] [pR M.dj,mo M.eI,yQ M.me,abx M.xE,gZ M.qM] []
theorem aqn:aV abA:=aZ au _ (af ru (af nc (af CX (af aqm (af M8 acW)))))
theorem aqo:az (abz (M.xJ)):=ba (cx:=abA) true aqn Tryz.func155 (aS (aN (by kernel_rfl))) ⟨⟨[.el U.Item],[.el U.parser]⟩,fun x=>(x.1.1,x.2.1)⟩ (fun x=>by kernel_rfl)
def Na(m:M.ar->Option (M.bf×M.ar)):aI K:={f:=103,sh:=tH,R:=M.bf×M.ar,run:=fun x=>m x.2.1,dflt:=default,out:=fun r=>(Sh.enc D (.el U.Path) r.1,aY.encs D [.el U.parser] (r.2,()))}
def abB:Cx K:=bw [(50,.bh),(52,.bh),(51,.bh)] [rq M.gJ,mo M.eI,M9 M.sx] []
theorem aqp:aV abB:=aZ au _ (af tV (af nc (af abq acW)))
theorem abC:az (Na (M.mS)):=ba (cx:=abB) true aqp Tryz.func103 (aS (aN (by kernel_rfl))) ⟨⟨[.el U.Path],[.el U.parser]⟩,fun x=>(x.1.1,x.2.1)⟩ (fun x=>by kernel_rfl)
def abD(m:Int->(List UInt8)->Int->(List UInt8)->Bool->(List UInt8)->(List UInt8)->(List UInt8)->(List M.ai)->Int->Bool->(List (List UInt8))->(List M.aa)->(List M.ax)->(List M.aK)->Option (Int×(List UInt8)×Int×(List UInt8)×Bool×(List UInt8)×(List UInt8)×(List UInt8)×(List M.ai)×Int×Bool×(List (List UInt8))×(List M.aa)×(List M.ax)×(List M.aK))):aI K:={f:=159,sh:=Zj,R:=Int×(List UInt8)×Int×(List UInt8)×Bool×(List UInt8)×(List UInt8)×(List UInt8)×(List M.ai)×Int×Bool×(List (List UInt8))×(List M.aa)×(List M.ax)×(List M.aK),run:=fun x=>m x.2.2.1.1 x.2.2.1.2.1 x.2.2.1.2.2.1 x.2.2.1.2.2.2.1 x.2.2.1.2.2.2.2.2.2.2.1 x.2.2.1.2.2.2.2.2.2.2.2.1 x.2.2.1.2.2.2.2.2.2.2.2.2.1 x.2.2.1.2.2.2.2.2.2.2.2.2.2.1 x.2.2.2.1.1 x.2.2.2.1.2.1 x.2.2.2.1.2.2.1 x.2.2.2.2.1 x.2.2.2.2.2.1 x.2.2.2.2.2.2.1 x.2.2.2.2.2.2.2.1,dflt:=default,out:=fun r=>(Sh.enc D (.bD []) (),aY.encs D [.box [.ptr 2 0],.box [iq0,.str,iq0,.str,.own 7,.own 8,.own 9,.bool,.str,.str,.str,.own 10],.box [.an U.Token,iq0,.bool],.dead,.dead,.dead,.dead,.arr U.str,.arr U.Term,.arr U.cZ,.arr U.dc] (((),()),((r.1,(r.2.1,(r.2.2.1,(r.2.2.2.1,((),((),((),(r.2.2.2.2.1,(r.2.2.2.2.2.1,(r.2.2.2.2.2.2.1,(r.2.2.2.2.2.2.2.1,((),())))))))))))),((r.2.2.2.2.2.2.2.2.1,(r.2.2.2.2.2.2.2.2.2.1,(r.2.2.2.2.2.2.2.2.2.2.1,()))),((),((),((),((),(r.2.2.2.2.2.2.2.2.2.2.2.1,(r.2.2.2.2.2.2.2.2.2.2.2.2.1,(r.2.2.2.2.2.2.2.2.2.2.2.2.2.1,(r.2.2.2.2.2.2.2.2.2.2.2.2.2.2,()))))))))))))}
def abE:Cx K:={eZ with mode:=eC .plain [(156,.bh),(52,.bh)],mv:=true,call:=callOf D [HS M.mN,mo M.eI],loop:=dZ []}
theorem aqr:aV abE:=aZ au _ (af M7 (af nc acW))
theorem aqs:az (abD (M.Au)):=ba (cx:=abE) true aqr Tryz.func159 (aS (aN (by kernel_rfl))) ⟨Zk,fun x=>(x.2.2.1.1,x.2.2.1.2.1,x.2.2.1.2.2.1,x.2.2.1.2.2.2.1,x.2.2.1.2.2.2.2.2.2.2.1,x.2.2.1.2.2.2.2.2.2.2.2.1,x.2.2.1.2.2.2.2.2.2.2.2.2.1,x.2.2.1.2.2.2.2.2.2.2.2.2.2.1,x.2.2.2.1.1,x.2.2.2.1.2.1,x.2.2.2.1.2.2.1,x.2.2.2.2.2.2.2.2.1,x.2.2.2.2.2.2.2.2.2.1,x.2.2.2.2.2.2.2.2.2.2.1,x.2.2.2.2.2.2.2.2.2.2.2.1)⟩ (fun x=>by kernel_rfl)
def abG:bG K:=bM D false 30 7 [0,1,2,6] [] Zn (fun x=>M.sF x.1.2.1 ad x.1.2.2.2.1 x.2.1 x.2.2.2.1.1 x.2.2.2.1.2.1 x.2.2.2.1.2.2.1 x.2.2.2.1.2.2.2.1 x.2.2.2.1.2.2.2.2.2.2.2.1 x.2.2.2.1.2.2.2.2.2.2.2.2.1 x.2.2.2.1.2.2.2.2.2.2.2.2.2.1 x.2.2.2.1.2.2.2.2.2.2.2.2.2.2.1 x.2.2.2.2.2.2.2.2.1 x.2.2.2.2.2.2.2.2.2.1 x.2.2.2.2.2.2.2.2.2.2.1 x.2.2.2.2.2.2.2.2.2.2.2.1) abu
def abH(m:Int->M.ar->Int->(List UInt8)->Int->(List UInt8)->Bool->(List UInt8)->(List UInt8)->(List UInt8)->(List (List UInt8))->(List M.aa)->(List M.ax)->(List M.aK)->Option (M.ar×Int×(List UInt8)×Int×(List UInt8)×Bool×(List UInt8)×(List UInt8)×(List UInt8)×(List (List UInt8))×(List M.aa)×(List M.ax)×(List M.aK))):aI K:={f:=158,sh:=⟨[.ptr 0 0,iq0,.fn 159 [.ptr 1 0,.ptr 2 0]],[.el U.parser,.box [.ptr 0 0],.box [iq0,.str,iq0,.str,.own 3,.own 4,.own 5,.bool,.str,.str,.str,.own 6],.arr U.str,.arr U.Term,.arr U.cZ,.arr U.dc]⟩,R:=M.ar×Int×(List UInt8)×Int×(List UInt8)×Bool×(List UInt8)×(List UInt8)×(List UInt8)×(List (List UInt8))×(List M.aa)×(List M.ax)×(List M.aK),run:=fun x=>m x.1.2.1 x.2.1 x.2.2.2.1.1 x.2.2.2.1.2.1 x.2.2.2.1.2.2.1 x.2.2.2.1.2.2.2.1 x.2.2.2.1.2.2.2.2.2.2.2.1 x.2.2.2.1.2.2.2.2.2.2.2.2.1 x.2.2.2.1.2.2.2.2.2.2.2.2.2.1 x.2.2.2.1.2.2.2.2.2.2.2.2.2.2.1 x.2.2.2.2.1 x.2.2.2.2.2.1 x.2.2.2.2.2.2.1 x.2.2.2.2.2.2.2.1,dflt:=default,out:=fun r=>(Sh.enc D (.bD []) (),aY.encs D [.el U.parser,.box [.ptr 0 0],.box [iq0,.str,iq0,.str,.own 7,.own 8,.own 9,.bool,.str,.str,.str,.own 10],.dead,.dead,.dead,.dead,.arr U.str,.arr U.Term,.arr U.cZ,.arr U.dc] (r.1,(((),()),((r.2.1,(r.2.2.1,(r.2.2.2.1,(r.2.2.2.2.1,((),((),((),(r.2.2.2.2.2.1,(r.2.2.2.2.2.2.1,(r.2.2.2.2.2.2.2.1,(r.2.2.2.2.2.2.2.2.1,((),())))))))))))),((),((),((),((),(r.2.2.2.2.2.2.2.2.2.1,(r.2.2.2.2.2.2.2.2.2.2.1,(r.2.2.2.2.2.2.2.2.2.2.2.1,(r.2.2.2.2.2.2.2.2.2.2.2.2,()))))))))))))}
def HZ:Cx K:={eZ with mode:=eC .plain [(52,.bh),(159,.bh)],mv:=true,call:=callOf D [abD M.Au,mo M.eI],loop:=dZ [(1,abG)]}
theorem abI:aV HZ:=aZ au _ (af aqs (af nc acW))
theorem aqt:bH HZ (bC (bL Tryz.f158) 0) abG:=bN (cx:=HZ) (sh:=Zn) (run:=fun n x=>M.sF x.1.2.1 n x.1.2.2.2.1 x.2.1 x.2.2.2.1.1 x.2.2.2.1.2.1 x.2.2.2.1.2.2.1 x.2.2.2.1.2.2.2.1 x.2.2.2.1.2.2.2.2.2.2.2.1 x.2.2.2.1.2.2.2.2.2.2.2.2.1 x.2.2.2.1.2.2.2.2.2.2.2.2.2.1 x.2.2.2.1.2.2.2.2.2.2.2.2.2.2.1 x.2.2.2.2.2.2.2.2.1 x.2.2.2.2.2.2.2.2.2.1 x.2.2.2.2.2.2.2.2.2.2.1 x.2.2.2.2.2.2.2.2.2.2.2.1) (bK:=abv) au abI bp (aN (by kernel_rfl)) (fun _=>rfl) (fun m x=>by kernel_rfl) (af ⟨df,fun _ _ _=>rfl⟩ (af ⟨bP,fun _ _ _=>rfl⟩ acW)) false ad
theorem aqu:az (abH (M.vk)):=ba (cx:=HZ) true abI Tryz.func158 (aS (bU 1 (by kernel_rfl) (bY (.mk (by kernel_rfl) aqt)))) ⟨Zm,fun x=>(x.2.1,x.2.2.2.1.1,x.2.2.2.1.2.1,x.2.2.2.1.2.2.1,x.2.2.2.1.2.2.2.1,x.2.2.2.1.2.2.2.2.2.2.2.1,x.2.2.2.1.2.2.2.2.2.2.2.2.1,x.2.2.2.1.2.2.2.2.2.2.2.2.2.1,x.2.2.2.1.2.2.2.2.2.2.2.2.2.2.1,x.2.2.2.2.2.2.2.2.1,x.2.2.2.2.2.2.2.2.2.1,x.2.2.2.2.2.2.2.2.2.2.1,x.2.2.2.2.2.2.2.2.2.2.2.1)⟩ (fun x=>by kernel_rfl)
def abJ(m:M.ar->Option (M.ah×M.ar)):aI K:={f:=102,sh:=tH,R:=M.ah×M.ar,run:=fun x=>m x.2.1,dflt:=default,out:=fun r=>(Sh.enc D (.el U.Item) r.1,aY.encs D [.el U.parser] (r.2,()))}
def abK:Cx K:=bw [(50,.bh),(101,.bh),(155,.bh),(156,.bh),(49,.bh),(157,.bh),(103,.bh),(158,.bh)] [rq M.gJ,yQ M.me,abz M.xJ,HS M.mN,pR M.dj,gZ M.qM,Na M.mS,abH M.vk] []
theorem aqv:aV abK:=aZ au _ (af tV (af CX (af aqo (af M7 (af ru (af M8 (af abC (af aqu acW))))))))
theorem aqw:az (abJ (M.AA)):=ba (cx:=abK) true aqv Tryz.func102 (aS (aN (by kernel_rfl))) ⟨⟨[.el U.Item],[.el U.parser]⟩,fun x=>(x.1.1,x.2.1)⟩ (fun x=>by kernel_rfl)
def aqx(y:M.ar×(List UInt8)×(List UInt8)×(List M.ah)×(List M.ah)){R:Type}(k:KT R):R:=match y with|a0=>kk k (Ex.exit 0) Hg (((),((),((),()))),(a0.1,((a0.2.1,((),())),((a0.2.2.1,((),())),((),((),(a0.2.2.2.1,(a0.2.2.2.2,()))))))))
def aqy:List (cH K (M.ar×(List UInt8)×(List UInt8)×(List M.ah)×(List M.ah))):=[⟨(Ex.exit 0),Hg,fun x=>(x.2.1,x.2.2.1.1,x.2.2.2.1.1,x.2.2.2.2.2.2.1,x.2.2.2.2.2.2.2.1)⟩]
def abL:bG K:=bM D false 37 5 [0,2,3] [0,2,3] Hg (fun x=>M.xK x.2.2.1.1 x.2.2.2.1.1 x.2.2.2.2.2.2.1 ad x.2.1 x.2.2.2.2.2.2.2.1) aqx
def abM(m:M.ar->Option (M.aE×M.ar)):aI K:={f:=53,sh:=tH,R:=M.aE×M.ar,run:=fun x=>m x.2.1,dflt:=default,out:=fun r=>(Sh.enc D (.el U.cJ) r.1,aY.encs D [.el U.parser] (r.2,()))}
def H3:Cx K:=bw [(50,.bh),(49,.bh),(101,.bh),(102,.bh)] [rq M.gJ,pR M.dj,yQ M.me,abJ M.AA] [(3,abL)]
theorem abN:aV H3:=aZ au _ (af tV (af ru (af CX (af aqw acW))))
theorem aqz:bH H3 (bC (bL Tryz.f53) 0) abL:=bN (cx:=H3) (sh:=Hg) (run:=fun n x=>M.xK x.2.2.1.1 x.2.2.2.1.1 x.2.2.2.2.2.2.1 n x.2.1 x.2.2.2.2.2.2.2.1) (bK:=aqy) au abN bp (aN (by kernel_rfl)) (fun _=>rfl) (fun m x=>by kernel_rfl) (af ⟨bP,fun _ _ _=>rfl⟩ acW) false ad
theorem aqA:az (abM (M.xM)):=ba (cx:=H3) true abN Tryz.func53 (aS (bU 1 (by kernel_rfl) (bY (.mk (by kernel_rfl) aqz)))) ⟨⟨[.el U.cJ],[.el U.parser]⟩,fun x=>(x.1.1,x.2.1)⟩ (fun x=>by kernel_rfl)
def aqB(y:M.ar×(List UInt8)×(List UInt8)×(List M.aG)×(List M.aG)){R:Type}(k:KT R):R:=match y with|a0=>kk k (Ex.exit 0) Hh (((),((),((),()))),(a0.1,((a0.2.1,((),())),((a0.2.2.1,((),())),((),((),(a0.2.2.2.1,(a0.2.2.2.2,()))))))))
def aqC:List (cH K (M.ar×(List UInt8)×(List UInt8)×(List M.aG)×(List M.aG))):=[⟨(Ex.exit 0),Hh,fun x=>(x.2.1,x.2.2.1.1,x.2.2.2.1.1,x.2.2.2.2.2.2.1,x.2.2.2.2.2.2.2.1)⟩]
def abO:bG K:=bM D false 56 5 [0,2,3] [0,2,3] Hh (fun x=>M.qQ x.2.2.1.1 x.2.2.2.1.1 x.2.2.2.2.2.2.1 ad x.2.1 x.2.2.2.2.2.2.2.1) aqB
def abP(m:M.ar->Option (M.aJ×M.ar)):aI K:={f:=54,sh:=tH,R:=M.aJ×M.ar,run:=fun x=>m x.2.1,dflt:=default,out:=fun r=>(Sh.enc D (.el U.cY) r.1,aY.encs D [.el U.parser] (r.2,()))}
def H4:Cx K:=bw [(50,.bh),(49,.bh),(101,.bh),(52,.bh),(103,.bh)] [rq M.gJ,pR M.dj,yQ M.me,mo M.eI,Na M.mS] [(3,abO)]
theorem abQ:aV H4:=aZ au _ (af tV (af ru (af CX (af nc (af abC acW)))))
theorem aqD:bH H4 (bC (bL Tryz.f54) 0) abO:=bN (cx:=H4) (sh:=Hh) (run:=fun n x=>M.qQ x.2.2.1.1 x.2.2.2.1.1 x.2.2.2.2.2.2.1 n x.2.1 x.2.2.2.2.2.2.2.1) (bK:=aqC) au abQ bp (aN (by kernel_rfl)) (fun _=>rfl) (fun m x=>by kernel_rfl) (af ⟨bP,fun _ _ _=>rfl⟩ acW) false ad
theorem aqE:az (abP (M.vl)):=ba (cx:=H4) true abQ Tryz.func54 (aS (bU 1 (by kernel_rfl) (bY (.mk (by kernel_rfl) aqD)))) ⟨⟨[.el U.cY],[.el U.parser]⟩,fun x=>(x.1.1,x.2.1)⟩ (fun x=>by kernel_rfl)
def jX(m:Int->M.aC->Option (M.aa×M.aC)):aI K:={f:=185,sh:=⟨[.ptr 0 0,iq0],[.el U.dm]⟩,R:=M.aa×M.aC,run:=fun x=>m x.1.2.1 x.2.1,dflt:=default,out:=fun r=>(Sh.enc D (.el U.Term) r.1,aY.encs D [.el U.dm] (r.2,()))}
def abR(m:Int->M.aC->Option ((List M.aa)×M.aC)):aI K:={f:=224,sh:=⟨[.ptr 0 0,iq0],[.el U.dm]⟩,R:=(List M.aa)×M.aC,run:=fun x=>m x.1.2.1 x.2.1,dflt:=default,out:=fun r=>(Sh.enc D (.an U.Term) r.1,aY.encs D [.el U.dm] (r.2,()))}
def abS(cn:Int->M.aC->Option (M.aa×M.aC)):Cx K:=bw [(91,.bh),(185,.bh),(88,.bh)] [ml M.dN,jX cn,m9 M.dI] []
theorem aqF(cn:Int->M.aC->Option (M.aa×M.aC))(jl:az (jX cn)):aV (abS cn):=aZ au _ (af na (af jl (af nY acW)))
theorem aqG(cn:Int->M.aC->Option (M.aa×M.aC))(jl:az (jX cn)):az (abR (M.Aq cn)):=f9 (cx:=abS cn) (fz:=true) au (aqF cn jl) bp ⟨Tryz.func224,by kernel_rfl⟩ (aS (aN (by kernel_rfl))) ⟨⟨[.an U.Term],[.el U.dm]⟩,fun x=>(x.1.1,x.2.1)⟩ (fun x=>rfl) (fun x=>by kernel_rfl)
def abT(m:(List UInt8)->Option Bool):aI K:=cB 222 zs2 (fun x=>m x.1.1)
def abU:Cx K:=bw [(223,.plain)] [M5 M.sq] []
theorem aqH:aV abU:=aZ au _ (af aaO acW)
theorem aqI:az (abT (M.Ai)):=ba (cx:=abU) true aqH Tryz.func222 (aS (aN (by kernel_rfl))) ⟨zs0,fun x=>x.1.1⟩ (fun x=>by kernel_rfl)
def H5(m:M.aC->Option ((List UInt8)×M.aC)):aI K:={f:=184,sh:=m8,R:=(List UInt8)×M.aC,run:=fun x=>m x.2.1,dflt:=default,out:=fun r=>(Sh.enc D (.str) r.1,aY.encs D [.el U.dm] (r.2,()))}
def abV:Cx K:=bw [(46,.bh),(222,.plain),(89,.bh)] [vB M.kP,abT M.Ai,pF M.gd] []
theorem aqJ:aV abV:=aZ au _ (af yu (af aqI (af ri acW)))
theorem Nb:az (H5 (M.mO)):=ba (cx:=abV) true aqJ Tryz.func184 (aS (aN (by kernel_rfl))) ⟨MK,fun x=>(x.1.1,x.2.1)⟩ (fun x=>by kernel_rfl)
def CZ(m:Int->Int->M.aC->Option (M.aC)):aI K:={f:=225,sh:=⟨[.ptr 0 0,iq0,iq0],[.el U.dm]⟩,R:=M.aC,run:=fun x=>m x.1.2.1 x.1.2.2.1 x.2.1,dflt:=default,out:=fun r=>(Sh.enc D (.bD []) (),aY.encs D [.el U.dm] (r,()))}
def abW:Cx K:=bw [(88,.bh)] [m9 M.dI] []
theorem aqK:aV abW:=aZ au _ (af nY acW)
theorem H6:az (CZ (M.jQ)):=ba (cx:=abW) true aqK Tryz.func225 (aS (aN (by kernel_rfl))) ⟨MJ,fun x=>x.2.1⟩ (fun x=>by kernel_rfl)
def aqL(y:(List M.ai)×Int×Bool×Int×(List UInt8)×(List (List UInt8))×(List M.aa)){R:Type}(k:KT R):R:=match y with|a0=>kk k (Ex.exit 0) Zo ((),((a0.1,(a0.2.1,(a0.2.2.1,()))),((a0.2.2.2.1,(a0.2.2.2.2.1,((),((),())))),((),((),(a0.2.2.2.2.2.1,(a0.2.2.2.2.2.2,())))))))
def aqM:List (cH K ((List M.ai)×Int×Bool×Int×(List UInt8)×(List (List UInt8))×(List M.aa))):=[⟨(Ex.exit 0),Zo,fun x=>(x.2.1.1,x.2.1.2.1,x.2.1.2.2.1,x.2.2.1.1,x.2.2.1.2.1,x.2.2.2.2.2.1,x.2.2.2.2.2.2.1)⟩]
def abX(cn:Int->M.aC->Option (M.aa×M.aC)):bG K:=bM D false 98 4 [0,1,2] [] Zp (fun x=>M.jR cn x.1.2.2.1 x.2.2.1.1 x.2.2.1.2.1 ad x.2.1 x.2.2.2.2.2.1 x.2.2.2.2.2.2.1) aqL
def abY(m:Int->M.aC->Int->(List UInt8)->(List (List UInt8))->(List M.aa)->Option (M.aC×Int×(List UInt8)×(List (List UInt8))×(List M.aa))):aI K:={f:=226,sh:=⟨[.ptr 0 0,.ptr 1 0,iq0],[.el U.dm,.box [iq0,.str,.own 2,.own 3],.arr U.str,.arr U.Term]⟩,R:=M.aC×Int×(List UInt8)×(List (List UInt8))×(List M.aa),run:=fun x=>m x.1.2.2.1 x.2.1 x.2.2.1.1 x.2.2.1.2.1 x.2.2.2.1 x.2.2.2.2.1,dflt:=default,out:=fun r=>(Sh.enc D (.bD []) (),aY.encs D [.el U.dm,.box [iq0,.str,.own 4,.own 5],.dead,.dead,.arr U.str,.arr U.Term] (r.1,((r.2.1,(r.2.2.1,((),((),())))),((),((),(r.2.2.2.1,(r.2.2.2.2,())))))))}
def H7(cn:Int->M.aC->Option (M.aa×M.aC)):Cx K:={eZ with mode:=eC .plain [(88,.bh),(89,.bh),(185,.bh),(91,.bh),(225,.bh)],mv:=true,call:=callOf D [m9 M.dI,pF M.gd,jX cn,ml M.dN,CZ M.jQ],loop:=dZ [(1,abX cn)]}
theorem abZ(cn:Int->M.aC->Option (M.aa×M.aC))(jl:az (jX cn)):aV (H7 cn):=aZ au _ (af nY (af ri (af jl (af na (af H6 acW)))))
theorem aqN(cn:Int->M.aC->Option (M.aa×M.aC))(jl:az (jX cn)):bH (H7 cn) (bC (bL Tryz.f226) 0) (abX cn):=bN (cx:=H7 cn) (sh:=Zp) (run:=fun n x=>M.jR cn x.1.2.2.1 x.2.2.1.1 x.2.2.1.2.1 n x.2.1 x.2.2.2.2.2.1 x.2.2.2.2.2.2.1) (bK:=aqM) au (abZ cn jl) bp (aN (by kernel_rfl)) (fun _=>rfl) (fun m x=>by kernel_rfl) (af ⟨bP,fun _ _ _=>rfl⟩ acW) false ad
theorem aqO(cn:Int->M.aC->Option (M.aa×M.aC))(jl:az (jX cn)):az (abY (M.mP cn)):=f9 (cx:=H7 cn) (fz:=true) au (abZ cn jl) bp ⟨Tryz.func226,by kernel_rfl⟩ (aS (bU 1 (by kernel_rfl) (bY (.mk (by kernel_rfl) (aqN cn jl))))) ⟨⟨[.bD []],[.el U.dm,.box [iq0,.str,.own 4,.own 5],.dead,.dead,.arr U.str,.arr U.Term]⟩,fun x=>(x.2.1,x.2.2.1.1,x.2.2.1.2.1,x.2.2.2.2.2.1,x.2.2.2.2.2.2.1)⟩ (fun x=>rfl) (fun x=>by kernel_rfl)
def aqP(y:(List M.ai)×Int×Bool×Int×(List UInt8)×Int×(List UInt8)×(List (List UInt8))×(List M.aa)×(List (List UInt8))×(List M.aa)){R:Type}(k:KT R):R:=match y with|a0=>kk k (Ex.exit 1) Zq (((),((),())),((a0.1,(a0.2.1,(a0.2.2.1,()))),((a0.2.2.2.1,(a0.2.2.2.2.1,((),((),())))),((a0.2.2.2.2.2.1,(a0.2.2.2.2.2.2.1,((),((),())))),((),((),((),((),(a0.2.2.2.2.2.2.2.1,(a0.2.2.2.2.2.2.2.2.1,(a0.2.2.2.2.2.2.2.2.2.1,(a0.2.2.2.2.2.2.2.2.2.2,()))))))))))))
def aqQ:List (cH K ((List M.ai)×Int×Bool×Int×(List UInt8)×Int×(List UInt8)×(List (List UInt8))×(List M.aa)×(List (List UInt8))×(List M.aa))):=[⟨(Ex.exit 1),Zq,fun x=>(x.2.1.1,x.2.1.2.1,x.2.1.2.2.1,x.2.2.1.1,x.2.2.1.2.1,x.2.2.2.1.1,x.2.2.2.1.2.1,x.2.2.2.2.2.2.2.2.1,x.2.2.2.2.2.2.2.2.2.1,x.2.2.2.2.2.2.2.2.2.2.1,x.2.2.2.2.2.2.2.2.2.2.2.1)⟩]
def ab1(cn:Int->M.aC->Option (M.aa×M.aC)):bG K:=bM D false 101 7 [0,1,4,6] [4,6] Zr (fun x=>M.qL cn x.1.2.1 x.2.2.1.1 x.2.2.1.2.1 x.2.2.2.1.1 x.2.2.2.1.2.1 x.2.2.2.2.2.2.2.2.1 x.2.2.2.2.2.2.2.2.2.1 x.2.2.2.2.2.2.2.2.2.2.1 ad x.2.1 x.2.2.2.2.2.2.2.2.2.2.2.1) aqP
def H8(cn:Int->M.aC->Option (M.aa×M.aC)):Cx K:=bw [(89,.bh),(223,.plain),(88,.bh),(185,.bh),(224,.bh),(91,.bh),(225,.bh),(184,.bh),(226,.bh)] [pF M.gd,M5 M.sq,m9 M.dI,jX cn,abR (M.Aq cn),H5 M.mO,abY (M.mP cn),ml M.dN,CZ M.jQ] [(20,ab1 cn)]
theorem ab2(cn:Int->M.aC->Option (M.aa×M.aC))(jl:az (jX cn)):aV (H8 cn):=aZ au _ (af ri (af aaO (af nY (af jl (af (aqG cn jl) (af Nb (af (aqO cn jl) (af na (af H6 acW)))))))))
theorem aqR(cn:Int->M.aC->Option (M.aa×M.aC))(jl:az (jX cn)):bH (H8 cn) (bC (bL Tryz.f185) 0) (ab1 cn):=bN (cx:=H8 cn) (sh:=Zr) (run:=fun n x=>M.qL cn x.1.2.1 x.2.2.1.1 x.2.2.1.2.1 x.2.2.2.1.1 x.2.2.2.1.2.1 x.2.2.2.2.2.2.2.2.1 x.2.2.2.2.2.2.2.2.2.1 x.2.2.2.2.2.2.2.2.2.2.1 n x.2.1 x.2.2.2.2.2.2.2.2.2.2.2.1) (bK:=aqQ) au (ab2 cn jl) bp (aN (by kernel_rfl)) (fun _=>rfl) (fun m x=>by kernel_rfl) (af ⟨bP,fun _ _ _=>rfl⟩ acW) false ad
theorem aqS(cn:Int->M.aC->Option (M.aa×M.aC))(jl:az (jX cn)):az (jX (M.vg cn)):=f9 (cx:=H8 cn) (fz:=true) au (ab2 cn jl) bp ⟨Tryz.func185,by kernel_rfl⟩ (aS (bU 1 (by kernel_rfl) (bY (.mk (by kernel_rfl) (aqR cn jl))))) ⟨⟨[.el U.Term],[.el U.dm]⟩,fun x=>(x.1.1,x.2.1)⟩ (fun x=>rfl) (fun x=>by kernel_rfl)
theorem ab3:∀n,az (jX (M.sC n))|0=>nE fun _=>rfl|n+1=>aqS (M.sC n) (ab3 n)
theorem Nc:az (jX (M.sD)):=ab3 ad
def Tt(y:(List M.ai)×Int×Bool×(List UInt8)×(List UInt8)×(List UInt8)×(List UInt8)×(List M.aE)×(List M.aJ)×(List M.aE)×(List M.aJ)){R:Type}(k:KT R):R:=match y with|a0=>kk k (Ex.exit 0) YU (((),((),())),((a0.1,(a0.2.1,(a0.2.2.1,()))),((a0.2.2.2.1,(a0.2.2.2.2.1,((),((),())))),((a0.2.2.2.2.2.1,(a0.2.2.2.2.2.2.1,((),((),())))),((),((),((),((),(a0.2.2.2.2.2.2.2.1,(a0.2.2.2.2.2.2.2.2.1,(a0.2.2.2.2.2.2.2.2.2.1,(a0.2.2.2.2.2.2.2.2.2.2,()))))))))))))
def TB:List (cH K ((List M.ai)×Int×Bool×(List UInt8)×(List UInt8)×(List UInt8)×(List UInt8)×(List M.aE)×(List M.aJ)×(List M.aE)×(List M.aJ))):=[⟨(Ex.exit 0),YU,fun x=>(x.2.1.1,x.2.1.2.1,x.2.1.2.2.1,x.2.2.1.1,x.2.2.1.2.1,x.2.2.2.1.1,x.2.2.2.1.2.1,x.2.2.2.2.2.2.2.2.1,x.2.2.2.2.2.2.2.2.2.1,x.2.2.2.2.2.2.2.2.2.2.1,x.2.2.2.2.2.2.2.2.2.2.2.1)⟩]
def ab4:bG K:=bM D false 72 7 [0,2,3] [2,3] Zs (fun x=>M.jT x.2.2.1.1 x.2.2.1.2.1 x.2.2.2.1.1 x.2.2.2.1.2.1 x.2.2.2.2.2.2.2.2.1 x.2.2.2.2.2.2.2.2.2.1 ad x.2.1 x.2.2.2.2.2.2.2.2.2.2.1 x.2.2.2.2.2.2.2.2.2.2.2.1) Tt
def ab5(m:M.ar->Option ((List UInt8)×(List UInt8)×M.ar×(List M.aE)×(List M.aJ))):aI K:={f:=25,sh:=tH,R:=(List UInt8)×(List UInt8)×M.ar×(List M.aE)×(List M.aJ),run:=fun x=>m x.2.1,dflt:=default,out:=fun r=>(Sh.enc D (.agg [.str,.str,.own 1,.own 2]) (r.1,(r.2.1,((),((),())))),aY.encs D [.el U.parser,.arr U.cJ,.arr U.cY] (r.2.2.1,(r.2.2.2.1,(r.2.2.2.2,()))))}
def H9:Cx K:={eZ with mode:=eC .plain [(49,.bh),(50,.bh),(51,.bh),(52,.bh),(53,.bh),(54,.bh)],iG:=[[none,none,some U.cJ,some U.cY]],call:=callOf D [pR M.dj,rq M.gJ,M9 M.sx,mo M.eI,abM M.xM,abP M.vl],loop:=dZ [(7,ab4)]}
theorem ab6:aV H9:=aZ au _ (af ru (af tV (af abq (af nc (af aqA (af aqE acW))))))
theorem aqT:bH H9 (bC (bL Tryz.f25) 0) ab4:=bN (cx:=H9) (sh:=Zs) (run:=fun n x=>M.jT x.2.2.1.1 x.2.2.1.2.1 x.2.2.2.1.1 x.2.2.2.1.2.1 x.2.2.2.2.2.2.2.2.1 x.2.2.2.2.2.2.2.2.2.1 n x.2.1 x.2.2.2.2.2.2.2.2.2.2.1 x.2.2.2.2.2.2.2.2.2.2.2.1) (bK:=TB) au ab6 bp (aN (by kernel_rfl)) (fun _=>rfl) (fun m x=>by kernel_rfl) (af ⟨bP,fun _ _ _=>rfl⟩ acW) false ad
theorem aqU:az (ab5 (M.AG)):=ba (cx:=H9) false ab6 Tryz.func25 (aS (bU 1 (by kernel_rfl) (bY (.mk (by kernel_rfl) aqT)))) ⟨⟨[.agg [.str,.str,.own 1,.own 2]],[.el U.parser,.arr U.cJ,.arr U.cY]⟩,fun x=>(x.1.1.1,x.1.1.2.1,x.2.1,x.2.2.1,x.2.2.2.1)⟩ (fun x=>by kernel_rfl)
def ab7(m:M.ar->(List UInt8)->(List UInt8)->(List M.aE)->(List M.aJ)->Option (M.ar×(List UInt8)×(List UInt8)×(List M.aE)×(List M.aJ))):aI K:={f:=24,sh:=⟨[.ptr 0 0,.ptr 1 0],[.el U.parser,.box [.str,.str,.own 2,.own 3],.arr U.cJ,.arr U.cY]⟩,R:=M.ar×(List UInt8)×(List UInt8)×(List M.aE)×(List M.aJ),run:=fun x=>m x.2.1 x.2.2.1.1 x.2.2.1.2.1 x.2.2.2.1 x.2.2.2.2.1,dflt:=default,out:=fun r=>(Sh.enc D (.bD []) (),aY.encs D [.el U.parser,.box [.str,.str,.own 4,.own 5],.dead,.dead,.arr U.cJ,.arr U.cY] (r.1,((r.2.1,(r.2.2.1,((),((),())))),((),((),(r.2.2.2.1,(r.2.2.2.2,())))))))}
def ab8:Cx K:={eZ with mode:=eC .plain [(25,.bh)],mv:=true,call:=callOf D [ab5 M.AG],loop:=dZ []}
theorem aqV:aV ab8:=aZ au _ (af aqU acW)
theorem aqW:az (ab7 (M.AH)):=ba (cx:=ab8) true aqV Tryz.func24 (aS (aN (by kernel_rfl))) ⟨⟨[.bD []],[.el U.parser,.box [.str,.str,.own 4,.own 5],.dead,.dead,.arr U.cJ,.arr U.cY]⟩,fun x=>(x.2.1,x.2.2.1.1,x.2.2.1.2.1,x.2.2.2.2.2.1,x.2.2.2.2.2.2.1)⟩ (fun x=>by kernel_rfl)
def ab9(m:(List UInt8)->(List UInt8)->(List UInt8)->(List M.aE)->(List M.aJ)->Option (Int×Int×(List UInt8)×(List UInt8)×(List M.aE)×(List M.aJ))):aI K:={f:=23,sh:=⟨[.str,.fn 24 [.ptr 0 0]],[.box [.str,.str,.own 1,.own 2],.arr U.cJ,.arr U.cY]⟩,R:=Int×Int×(List UInt8)×(List UInt8)×(List M.aE)×(List M.aJ),run:=fun x=>m x.1.1 x.2.1.1 x.2.1.2.1 x.2.2.1 x.2.2.2.1,dflt:=default,out:=fun r=>(Sh.enc D (.bD [iq0,iq0]) (r.1,(r.2.1,())),aY.encs D [.box [.str,.str,.own 3,.own 4],.dead,.dead,.arr U.cJ,.arr U.cY] ((r.2.2.1,(r.2.2.2.1,((),((),())))),((),((),(r.2.2.2.2.1,(r.2.2.2.2.2,()))))))}
def aca:Cx K:={eZ with mode:=eC .plain [(48,.jN),(24,.bh)],mv:=true,call:=callOf D [aaG M.Ab,ab7 M.AH],loop:=dZ []}
theorem aqX:aV aca:=aZ au _ (af apA (af aqW acW))
theorem aqY:az (ab9 (M.oV)):=ba (cx:=aca) true aqX Tryz.func23 (aS (aN (by kernel_rfl))) ⟨⟨[.bD [iq0,iq0]],[.box [.str,.str,.own 3,.own 4],.dead,.dead,.arr U.cJ,.arr U.cY]⟩,fun x=>(x.1.1.1,x.1.1.2.1,x.2.1.1,x.2.1.2.1,x.2.2.2.2.1,x.2.2.2.2.2.1)⟩ (fun x=>by kernel_rfl)
def acb(m:M.aK->Option ((List UInt8))):aI K:=cS 55 Fv (fun x=>m x.1.1)
theorem aqZ:az (acb (M.AI)):=ba (cx:=gY) true ij Tryz.func55 (aS (aN (by kernel_rfl))) ⟨zs2,fun x=>x.1.1⟩ (fun x=>by kernel_rfl)
def aq0(y:(List M.aE)×Int×Int×(List M.ah)×Int×Int×M.aA×M.aE×(List (List UInt8))×(List (List UInt8))×(List (List UInt8))×(List (List UInt8))){R:Type}(k:KT R):R:=match y with|a0=>kk k (Ex.exit 5) Hj (((),((),((),((),((),((),(a0.1,(a0.2.1,(a0.2.2.1,(a0.2.2.2.1,(a0.2.2.2.2.1,(a0.2.2.2.2.2.1,())))))))))))),(a0.2.2.2.2.2.2.1,((),((),(a0.2.2.2.2.2.2.2.1,((),((),(a0.2.2.2.2.2.2.2.2.1,(a0.2.2.2.2.2.2.2.2.2.1,(a0.2.2.2.2.2.2.2.2.2.2.1,(a0.2.2.2.2.2.2.2.2.2.2.2,())))))))))))
def aq1:List (cH K ((List M.aE)×Int×Int×(List M.ah)×Int×Int×M.aA×M.aE×(List (List UInt8))×(List (List UInt8))×(List (List UInt8))×(List (List UInt8)))):=[⟨(Ex.exit 5),Hj,fun x=>(x.1.2.2.2.2.2.2.1,x.1.2.2.2.2.2.2.2.1,x.1.2.2.2.2.2.2.2.2.1,x.1.2.2.2.2.2.2.2.2.2.1,x.1.2.2.2.2.2.2.2.2.2.2.1,x.1.2.2.2.2.2.2.2.2.2.2.2.1,x.2.1,x.2.2.2.2.1,x.2.2.2.2.2.2.2.1,x.2.2.2.2.2.2.2.2.1,x.2.2.2.2.2.2.2.2.2.1,x.2.2.2.2.2.2.2.2.2.2.1)⟩]
def acd:bG K:=bM D false 96 6 [1,3,4,6,7,8,18,19,20,27,28,29,50,51,52] [1,3,4,6,7,8,18,19,20,27,28,29] Zt (fun x=>M.xQ x.1.2.2.2.2.2.2.1 x.1.2.2.2.2.2.2.2.1 x.1.2.2.2.2.2.2.2.2.1 x.1.2.2.2.2.2.2.2.2.2.1 x.1.2.2.2.2.2.2.2.2.2.2.1 x.1.2.2.2.2.2.2.2.2.2.2.2.1 x.1.2.2.2.2.2.2.2.2.2.2.2.2.1 x.1.2.2.2.2.2.2.2.2.2.2.2.2.2.1 x.2.1 x.2.2.2.2.1 x.2.2.2.2.2.2.2.1 x.2.2.2.2.2.2.2.2.1 x.2.2.2.2.2.2.2.2.2.1 ad x.1.2.2.2.2.2.2.2.2.2.2.2.2.2.2.1 x.2.2.2.2.2.2.2.2.2.2.1) aq0
def aq2(y:(List M.aE)×Int×Int×M.aA×M.aE×(List (List UInt8))×(List (List UInt8))×(List (List UInt8))×(List (List UInt8))){R:Type}(k:KT R):R:=match y with|a0=>kk k (Ex.exit 2) Zu (((),((),((),((),((),((),(a0.1,(a0.2.1,(a0.2.2.1,()))))))))),(a0.2.2.2.1,((),((),(a0.2.2.2.2.1,((),((),(a0.2.2.2.2.2.1,(a0.2.2.2.2.2.2.1,(a0.2.2.2.2.2.2.2.1,(a0.2.2.2.2.2.2.2.2,())))))))))))
def aq3:List (cH K ((List M.aE)×Int×Int×M.aA×M.aE×(List (List UInt8))×(List (List UInt8))×(List (List UInt8))×(List (List UInt8)))):=[⟨(Ex.exit 2),Zu,fun x=>(x.1.2.2.2.2.2.2.1,x.1.2.2.2.2.2.2.2.1,x.1.2.2.2.2.2.2.2.2.1,x.2.1,x.2.2.2.2.1,x.2.2.2.2.2.2.2.1,x.2.2.2.2.2.2.2.2.1,x.2.2.2.2.2.2.2.2.2.1,x.2.2.2.2.2.2.2.2.2.2.1)⟩]
def ace:bG K:=bM D false 96 6 [1,3,4,6,7,8,18,19,20,27,28,29] [1,3,4,6,7,8,18,19,20] Hj (fun x=>M.sL ad x.1.2.2.2.2.2.2.1 x.1.2.2.2.2.2.2.2.1 x.1.2.2.2.2.2.2.2.2.1 x.1.2.2.2.2.2.2.2.2.2.1 x.1.2.2.2.2.2.2.2.2.2.2.1 x.1.2.2.2.2.2.2.2.2.2.2.2.1 x.2.1 x.2.2.2.2.1 x.2.2.2.2.2.2.2.1 x.2.2.2.2.2.2.2.2.1 x.2.2.2.2.2.2.2.2.2.1 x.2.2.2.2.2.2.2.2.2.2.1) aq2
def TP(y:Bool⊕(M.aA×(List (List UInt8))×(List (List UInt8)))){R:Type}(k:KT R):R:=match y with|.inl a0=>kk k Ex.ret YV (((),((),((),(a0,())))),((),((),((),((),((),()))))))|.inr a1=>kk k (Ex.exit 0) YW (((),((),((),((),())))),(a1.1,((),((),(a1.2.1,(a1.2.2,()))))))
def TS:List (cH K ((Bool)⊕(M.aA×(List (List UInt8))×(List (List UInt8))))):=[⟨Ex.ret,YV,fun x=>.inl x.1.2.2.2.1⟩,⟨(Ex.exit 0),YW,fun x=>.inr ((x.2.1,x.2.2.2.2.1,x.2.2.2.2.2.1))⟩]
def acf:bG K:=bM D false 96 3 [1,3,4,18,19,20] [1,3,4,2] Zv (fun x=>M.xW ad x.1.2.2.2.1 x.1.2.2.2.2.1 x.1.2.2.2.2.2.1 x.2.1 x.2.2.2.2.1 x.2.2.2.2.2.1) TP
def aq4(y:(List (List UInt8))×(List (List UInt8))){R:Type}(k:KT R):R:=match y with|a0=>kk k (Ex.exit 7) Zw (((),((),())),((),((),(a0.1,(a0.2,())))))
def aq5:List (cH K ((List (List UInt8))×(List (List UInt8)))):=[⟨(Ex.exit 7),Zw,fun x=>(x.2.2.2.1,x.2.2.2.2.1)⟩]
def acg:bG K:=bM D false 96 2 [3,4,78,79,80] [3,4] Zx (fun x=>M.xX x.1.2.2.1 x.1.2.2.2.1 x.2.2.2.1 ad x.1.2.2.2.2.1 x.2.2.2.2.1) aq4
def ach(m:M.aA->Option Bool):aI K:=cB 26 nZ (fun x=>m x.1.1)
def pS:Cx K:=bw [(55,.plain),(56,.plain)] [acb M.AI,KJ M.nG] [(15,acd),(7,ace),(3,acf),(25,acg)]
theorem C0:aV pS:=aZ au _ (af aqZ (af af4 acW))
theorem aq6:bH pS (bC (bC (bC (bL Tryz.f26) 0) 0) 0) acd:=bN (cx:=pS) (sh:=Zt) (run:=fun n x=>M.xQ x.1.2.2.2.2.2.2.1 x.1.2.2.2.2.2.2.2.1 x.1.2.2.2.2.2.2.2.2.1 x.1.2.2.2.2.2.2.2.2.2.1 x.1.2.2.2.2.2.2.2.2.2.2.1 x.1.2.2.2.2.2.2.2.2.2.2.2.1 x.1.2.2.2.2.2.2.2.2.2.2.2.2.1 x.1.2.2.2.2.2.2.2.2.2.2.2.2.2.1 x.2.1 x.2.2.2.2.1 x.2.2.2.2.2.2.2.1 x.2.2.2.2.2.2.2.2.1 x.2.2.2.2.2.2.2.2.2.1 n x.1.2.2.2.2.2.2.2.2.2.2.2.2.2.2.1 x.2.2.2.2.2.2.2.2.2.2.1) (bK:=aq1) au C0 bp (aN (by kernel_rfl)) (fun _=>rfl) (fun m x=>by kernel_rfl) (af ⟨bP,fun _ _ _=>rfl⟩ acW) false ad
theorem aq7:bH pS (bC (bC (bL Tryz.f26) 0) 0) ace:=bN (cx:=pS) (sh:=Hj) (run:=fun n x=>M.sL n x.1.2.2.2.2.2.2.1 x.1.2.2.2.2.2.2.2.1 x.1.2.2.2.2.2.2.2.2.1 x.1.2.2.2.2.2.2.2.2.2.1 x.1.2.2.2.2.2.2.2.2.2.2.1 x.1.2.2.2.2.2.2.2.2.2.2.2.1 x.2.1 x.2.2.2.2.1 x.2.2.2.2.2.2.2.1 x.2.2.2.2.2.2.2.2.1 x.2.2.2.2.2.2.2.2.2.1 x.2.2.2.2.2.2.2.2.2.2.1) (bK:=aq3) au C0 bp (bU 1 (by kernel_rfl) (bY (.mk (by kernel_rfl) aq6))) (fun _=>rfl) (fun m x=>by kernel_rfl) (af ⟨bP,fun _ _ _=>rfl⟩ acW) false ad
theorem aq8:bH pS (bC (bL Tryz.f26) 0) acf:=bN (cx:=pS) (sh:=Zv) (run:=fun n x=>M.xW n x.1.2.2.2.1 x.1.2.2.2.2.1 x.1.2.2.2.2.2.1 x.2.1 x.2.2.2.2.1 x.2.2.2.2.2.1) (bK:=TS) au C0 bp (bU 1 (by kernel_rfl) (bY (.mk (by kernel_rfl) aq7))) (fun _=>rfl) (fun m x=>by kernel_rfl) (af ⟨df,fun _ _ _=>rfl⟩ (af ⟨bP,fun _ _ _=>rfl⟩ acW)) false ad
theorem aq9:bH pS (bC (bL Tryz.f26) 1) acg:=bN (cx:=pS) (sh:=Zx) (run:=fun n x=>M.xX x.1.2.2.1 x.1.2.2.2.1 x.2.2.2.1 n x.1.2.2.2.2.1 x.2.2.2.2.1) (bK:=aq5) au C0 bp (aN (by kernel_rfl)) (fun _=>rfl) (fun m x=>by kernel_rfl) (af ⟨bP,fun _ _ _=>rfl⟩ acW) false ad
theorem ara:az (ach (M.AL)):=ba (cx:=pS) true C0 Tryz.func26 (aS (bU 2 (by kernel_rfl) (lt_succ (bY (.mk (by kernel_rfl) aq8)) (.mk (by kernel_rfl) aq9)))) ⟨zs0,fun x=>x.1.1⟩ (fun x=>by kernel_rfl)
def VP(m:(List UInt8)->Option (M.aA×Int×Int)):aI K:={f:=9,sh:=zs2,R:=M.aA×Int×Int,run:=fun x=>m x.1.1,dflt:=default,out:=fun r=>(Sh.enc D (.bD [.el U.bo,iq0,iq0]) (r.1,(r.2.1,(r.2.2,()))),aY.encs D [] ())}
def aci:Cx K:=bw [(23,.bh),(26,.plain)] [ab9 M.oV,ach M.AL] []
theorem arb:aV aci:=aZ au _ (af aqY (af ara acW))
theorem alD:az (VP (M.AP)):=ba (cx:=aci) true arb Tryz.func9 (aS (aN (by kernel_rfl))) ⟨TX,fun x=>(x.1.1.1,x.1.1.2.1,x.1.1.2.2.1)⟩ (fun x=>by kernel_rfl)
def LV(m:M.aC->Option ((List UInt8)×M.aC)):aI K:={f:=90,sh:=m8,R:=(List UInt8)×M.aC,run:=fun x=>m x.2.1,dflt:=default,out:=fun r=>(Sh.enc D (.str) r.1,aY.encs D [.el U.dm] (r.2,()))}
def acj:Cx K:=bw [(46,.bh),(145,.plain),(144,.bh)] [vB M.kP,ZX M.CU,HK M.qG] []
theorem arc:aV acj:=aZ au _ (af yu (af aoJ (af M4 acW)))
theorem TA:az (LV (M.sy)):=ba (cx:=acj) true arc Tryz.func90 (aS (aN (by kernel_rfl))) ⟨MK,fun x=>(x.1.1,x.2.1)⟩ (fun x=>by kernel_rfl)
def ard(y:(List M.ai)×Int×Bool×(List M.ax)){R:Type}(k:KT R):R:=match y with|a0=>kk k (Ex.exit 0) Zy (((),()),((a0.1,(a0.2.1,(a0.2.2.1,()))),((),(a0.2.2.2,()))))
def arf:List (cH K ((List M.ai)×Int×Bool×(List M.ax))):=[⟨(Ex.exit 0),Zy,fun x=>(x.2.1.1,x.2.1.2.1,x.2.1.2.2.1,x.2.2.2.1)⟩]
def ack:bG K:=bM D false 35 2 [0,3] [3] Zz (fun x=>M.mT ad x.2.1 x.2.2.2.1) ard
def acm(m:M.aC->Option ((List M.ax)×M.aC)):aI K:={f:=221,sh:=m8,R:=(List M.ax)×M.aC,run:=fun x=>m x.2.1,dflt:=default,out:=fun r=>(Sh.enc D (.an U.cZ) r.1,aY.encs D [.el U.dm] (r.2,()))}
def Ia:Cx K:=bw [(88,.bh),(91,.bh),(89,.bh),(185,.bh),(225,.bh)] [m9 M.dI,ml M.dN,pF M.gd,jX M.sD,CZ M.jQ] [(5,ack)]
theorem acn:aV Ia:=aZ au _ (af nY (af na (af ri (af Nc (af H6 acW)))))
theorem arh:bH Ia (bC (bL Tryz.f221) 0) ack:=bN (cx:=Ia) (sh:=Zz) (run:=fun n x=>M.mT n x.2.1 x.2.2.2.1) (bK:=arf) au acn bp (aN (by kernel_rfl)) (fun _=>rfl) (fun m x=>by kernel_rfl) (af ⟨bP,fun _ _ _=>rfl⟩ acW) false ad
theorem ari:az (acm (M.Ax)):=ba (cx:=Ia) true acn Tryz.func221 (aS (bU 1 (by kernel_rfl) (bY (.mk (by kernel_rfl) arh)))) ⟨⟨[.an U.cZ],[.el U.dm]⟩,fun x=>(x.1.1,x.2.1)⟩ (fun x=>by kernel_rfl)
def aco(m:(List UInt8)->M.aC->Option (M.ah×M.aC)):aI K:={f:=183,sh:=G8,R:=M.ah×M.aC,run:=fun x=>m x.1.2.1 x.2.1,dflt:=default,out:=fun r=>(Sh.enc D (.el U.Item) r.1,aY.encs D [.el U.dm] (r.2,()))}
def acp:Cx K:=bw [(91,.bh),(88,.bh),(221,.bh),(185,.bh)] [ml M.dN,m9 M.dI,acm M.Ax,jX M.sD] []
theorem arj:aV acp:=aZ au _ (af na (af nY (af ari (af Nc acW))))
theorem ark:az (aco (M.Az)):=ba (cx:=acp) true arj Tryz.func183 (aS (aN (by kernel_rfl))) ⟨MM,fun x=>(x.1.1,x.2.1)⟩ (fun x=>by kernel_rfl)
def LS(m:M.aC->Option (M.bf×M.aC)):aI K:={f:=148,sh:=m8,R:=M.bf×M.aC,run:=fun x=>m x.2.1,dflt:=default,out:=fun r=>(Sh.enc D (.el U.Path) r.1,aY.encs D [.el U.dm] (r.2,()))}
def acr:Cx K:=bw [(89,.bh),(91,.bh),(90,.bh)] [pF M.gd,ml M.dN,LV M.sy] []
theorem arl:aV acr:=aZ au _ (af ri (af na (af TA acW)))
theorem Tn:az (LS (M.lO)):=ba (cx:=acr) true arl Tryz.func148 (aS (aN (by kernel_rfl))) ⟨⟨[.el U.Path],[.el U.dm]⟩,fun x=>(x.1.1,x.2.1)⟩ (fun x=>by kernel_rfl)
def arn(y:(List M.ai)×Int×Bool×Int×(List UInt8)×Int×(List UInt8)×Bool×(List UInt8)×(List UInt8)×(List UInt8)×Int×(List UInt8)×Int×(List UInt8)×Bool×(List UInt8)×(List UInt8)×(List UInt8)×(List (List UInt8))×(List M.aa)×(List M.ax)×(List M.aK)×(List (List UInt8))×(List M.aa)×(List M.ax)×(List M.aK)){R:Type}(k:KT R):R:=match y with|a0=>kk k (Ex.exit 0) ZA (((),((),())),((a0.1,(a0.2.1,(a0.2.2.1,()))),((a0.2.2.2.1,(a0.2.2.2.2.1,(a0.2.2.2.2.2.1,(a0.2.2.2.2.2.2.1,((),((),((),(a0.2.2.2.2.2.2.2.1,(a0.2.2.2.2.2.2.2.2.1,(a0.2.2.2.2.2.2.2.2.2.1,(a0.2.2.2.2.2.2.2.2.2.2.1,((),())))))))))))),((a0.2.2.2.2.2.2.2.2.2.2.2.1,(a0.2.2.2.2.2.2.2.2.2.2.2.2.1,(a0.2.2.2.2.2.2.2.2.2.2.2.2.2.1,(a0.2.2.2.2.2.2.2.2.2.2.2.2.2.2.1,((),((),((),(a0.2.2.2.2.2.2.2.2.2.2.2.2.2.2.2.1,(a0.2.2.2.2.2.2.2.2.2.2.2.2.2.2.2.2.1,(a0.2.2.2.2.2.2.2.2.2.2.2.2.2.2.2.2.2.1,(a0.2.2.2.2.2.2.2.2.2.2.2.2.2.2.2.2.2.2.1,((),())))))))))))),((),((),((),((),((),((),((),((),(a0.2.2.2.2.2.2.2.2.2.2.2.2.2.2.2.2.2.2.2.1,(a0.2.2.2.2.2.2.2.2.2.2.2.2.2.2.2.2.2.2.2.2.1,(a0.2.2.2.2.2.2.2.2.2.2.2.2.2.2.2.2.2.2.2.2.2.1,(a0.2.2.2.2.2.2.2.2.2.2.2.2.2.2.2.2.2.2.2.2.2.2.1,(a0.2.2.2.2.2.2.2.2.2.2.2.2.2.2.2.2.2.2.2.2.2.2.2.1,(a0.2.2.2.2.2.2.2.2.2.2.2.2.2.2.2.2.2.2.2.2.2.2.2.2.1,(a0.2.2.2.2.2.2.2.2.2.2.2.2.2.2.2.2.2.2.2.2.2.2.2.2.2.1,(a0.2.2.2.2.2.2.2.2.2.2.2.2.2.2.2.2.2.2.2.2.2.2.2.2.2.2,()))))))))))))))))))))
def aro:List (cH K ((List M.ai)×Int×Bool×Int×(List UInt8)×Int×(List UInt8)×Bool×(List UInt8)×(List UInt8)×(List UInt8)×Int×(List UInt8)×Int×(List UInt8)×Bool×(List UInt8)×(List UInt8)×(List UInt8)×(List (List UInt8))×(List M.aa)×(List M.ax)×(List M.aK)×(List (List UInt8))×(List M.aa)×(List M.ax)×(List M.aK))):=[⟨(Ex.exit 0),ZA,fun x=>(x.2.1.1,x.2.1.2.1,x.2.1.2.2.1,x.2.2.1.1,x.2.2.1.2.1,x.2.2.1.2.2.1,x.2.2.1.2.2.2.1,x.2.2.1.2.2.2.2.2.2.2.1,x.2.2.1.2.2.2.2.2.2.2.2.1,x.2.2.1.2.2.2.2.2.2.2.2.2.1,x.2.2.1.2.2.2.2.2.2.2.2.2.2.1,x.2.2.2.1.1,x.2.2.2.1.2.1,x.2.2.2.1.2.2.1,x.2.2.2.1.2.2.2.1,x.2.2.2.1.2.2.2.2.2.2.2.1,x.2.2.2.1.2.2.2.2.2.2.2.2.1,x.2.2.2.1.2.2.2.2.2.2.2.2.2.1,x.2.2.2.1.2.2.2.2.2.2.2.2.2.2.1,x.2.2.2.2.2.2.2.2.2.2.2.2.1,x.2.2.2.2.2.2.2.2.2.2.2.2.2.1,x.2.2.2.2.2.2.2.2.2.2.2.2.2.2.1,x.2.2.2.2.2.2.2.2.2.2.2.2.2.2.2.1,x.2.2.2.2.2.2.2.2.2.2.2.2.2.2.2.2.1,x.2.2.2.2.2.2.2.2.2.2.2.2.2.2.2.2.2.1,x.2.2.2.2.2.2.2.2.2.2.2.2.2.2.2.2.2.2.1,x.2.2.2.2.2.2.2.2.2.2.2.2.2.2.2.2.2.2.2.1)⟩]
def acs:bG K:=bM D false 39 11 [0,2,3] [2,3] ZB (fun x=>M.lP x.2.2.1.1 x.2.2.1.2.1 x.2.2.1.2.2.1 x.2.2.1.2.2.2.1 x.2.2.1.2.2.2.2.2.2.2.1 x.2.2.1.2.2.2.2.2.2.2.2.1 x.2.2.1.2.2.2.2.2.2.2.2.2.1 x.2.2.1.2.2.2.2.2.2.2.2.2.2.1 x.2.2.2.1.1 x.2.2.2.1.2.1 x.2.2.2.1.2.2.1 x.2.2.2.1.2.2.2.1 x.2.2.2.1.2.2.2.2.2.2.2.1 x.2.2.2.1.2.2.2.2.2.2.2.2.1 x.2.2.2.1.2.2.2.2.2.2.2.2.2.1 x.2.2.2.1.2.2.2.2.2.2.2.2.2.2.1 x.2.2.2.2.2.2.2.2.2.2.2.2.1 x.2.2.2.2.2.2.2.2.2.2.2.2.2.1 x.2.2.2.2.2.2.2.2.2.2.2.2.2.2.1 x.2.2.2.2.2.2.2.2.2.2.2.2.2.2.2.1 x.2.2.2.2.2.2.2.2.2.2.2.2.2.2.2.2.1 x.2.2.2.2.2.2.2.2.2.2.2.2.2.2.2.2.2.1 x.2.2.2.2.2.2.2.2.2.2.2.2.2.2.2.2.2.2.1 ad x.2.1 x.2.2.2.2.2.2.2.2.2.2.2.2.2.2.2.2.2.2.2.1) arn
def acu(m:M.aC->Option (M.ah×M.aC)):aI K:={f:=186,sh:=m8,R:=M.ah×M.aC,run:=fun x=>m x.2.1,dflt:=default,out:=fun r=>(Sh.enc D (.el U.Item) r.1,aY.encs D [.el U.dm] (r.2,()))}
def Ib:Cx K:=bw [(148,.bh),(88,.bh),(184,.bh),(91,.bh),(225,.bh)] [LS M.lO,m9 M.dI,H5 M.mO,ml M.dN,CZ M.jQ] [(4,acs)]
theorem acv:aV Ib:=aZ au _ (af Tn (af nY (af Nb (af na (af H6 acW)))))
theorem arp:bH Ib (bC (bL Tryz.f186) 0) acs:=bN (cx:=Ib) (sh:=ZB) (run:=fun n x=>M.lP x.2.2.1.1 x.2.2.1.2.1 x.2.2.1.2.2.1 x.2.2.1.2.2.2.1 x.2.2.1.2.2.2.2.2.2.2.1 x.2.2.1.2.2.2.2.2.2.2.2.1 x.2.2.1.2.2.2.2.2.2.2.2.2.1 x.2.2.1.2.2.2.2.2.2.2.2.2.2.1 x.2.2.2.1.1 x.2.2.2.1.2.1 x.2.2.2.1.2.2.1 x.2.2.2.1.2.2.2.1 x.2.2.2.1.2.2.2.2.2.2.2.1 x.2.2.2.1.2.2.2.2.2.2.2.2.1 x.2.2.2.1.2.2.2.2.2.2.2.2.2.1 x.2.2.2.1.2.2.2.2.2.2.2.2.2.2.1 x.2.2.2.2.2.2.2.2.2.2.2.2.1 x.2.2.2.2.2.2.2.2.2.2.2.2.2.1 x.2.2.2.2.2.2.2.2.2.2.2.2.2.2.1 x.2.2.2.2.2.2.2.2.2.2.2.2.2.2.2.1 x.2.2.2.2.2.2.2.2.2.2.2.2.2.2.2.2.1 x.2.2.2.2.2.2.2.2.2.2.2.2.2.2.2.2.2.1 x.2.2.2.2.2.2.2.2.2.2.2.2.2.2.2.2.2.2.1 n x.2.1 x.2.2.2.2.2.2.2.2.2.2.2.2.2.2.2.2.2.2.2.1) (bK:=aro) au acv bp (aN (by kernel_rfl)) (fun _=>rfl) (fun m x=>by kernel_rfl) (af ⟨bP,fun _ _ _=>rfl⟩ acW) false ad
theorem arq:az (acu (M.AB)):=ba (cx:=Ib) true acv Tryz.func186 (aS (bU 1 (by kernel_rfl) (bY (.mk (by kernel_rfl) arp)))) ⟨MM,fun x=>(x.1.1,x.2.1)⟩ (fun x=>by kernel_rfl)
def acw(m:M.aC->Option (M.ah×M.aC)):aI K:={f:=147,sh:=m8,R:=M.ah×M.aC,run:=fun x=>m x.2.1,dflt:=default,out:=fun r=>(Sh.enc D (.el U.Item) r.1,aY.encs D [.el U.dm] (r.2,()))}
def acx:Cx K:=bw [(89,.bh),(91,.bh),(183,.bh),(184,.bh),(88,.bh),(185,.bh),(186,.bh)] [pF M.gd,ml M.dN,aco M.Az,m9 M.dI,H5 M.mO,jX M.sD,acu M.AB] []
theorem ars:aV acx:=aZ au _ (af ri (af na (af ark (af nY (af Nb (af Nc (af arq acW)))))))
theorem art:az (acw (M.AD)):=ba (cx:=acx) true ars Tryz.func147 (aS (aN (by kernel_rfl))) ⟨MM,fun x=>(x.1.1,x.2.1)⟩ (fun x=>by kernel_rfl)
def aru(y:(List M.ai)×Int×Bool×(List UInt8)×(List UInt8)×(List M.ah)×(List M.ah)){R:Type}(k:KT R):R:=match y with|a0=>kk k (Ex.exit 0) ZC (((),((),())),((a0.1,(a0.2.1,(a0.2.2.1,()))),((a0.2.2.2.1,((),())),((a0.2.2.2.2.1,((),())),((),((),(a0.2.2.2.2.2.1,(a0.2.2.2.2.2.2,()))))))))
def arv:List (cH K ((List M.ai)×Int×Bool×(List UInt8)×(List UInt8)×(List M.ah)×(List M.ah))):=[⟨(Ex.exit 0),ZC,fun x=>(x.2.1.1,x.2.1.2.1,x.2.1.2.2.1,x.2.2.1.1,x.2.2.2.1.1,x.2.2.2.2.2.2.1,x.2.2.2.2.2.2.2.1)⟩]
def acy:bG K:=bM D false 34 5 [0,2,3] [2,3] ZD (fun x=>M.sG x.2.2.1.1 x.2.2.2.1.1 x.2.2.2.2.2.2.1 ad x.2.1 x.2.2.2.2.2.2.2.1) aru
def Tv(m:M.aC->Option (M.aE×M.aC)):aI K:={f:=92,sh:=m8,R:=M.aE×M.aC,run:=fun x=>m x.2.1,dflt:=default,out:=fun r=>(Sh.enc D (.el U.cJ) r.1,aY.encs D [.el U.dm] (r.2,()))}
def Ic:Cx K:=bw [(89,.bh),(88,.bh),(91,.bh),(147,.bh)] [pF M.gd,m9 M.dI,ml M.dN,acw M.AD] [(3,acy)]
theorem acz:aV Ic:=aZ au _ (af ri (af nY (af na (af art acW))))
theorem arw:bH Ic (bC (bL Tryz.f92) 0) acy:=bN (cx:=Ic) (sh:=ZD) (run:=fun n x=>M.sG x.2.2.1.1 x.2.2.2.1.1 x.2.2.2.2.2.2.1 n x.2.1 x.2.2.2.2.2.2.2.1) (bK:=arv) au acz bp (aN (by kernel_rfl)) (fun _=>rfl) (fun m x=>by kernel_rfl) (af ⟨bP,fun _ _ _=>rfl⟩ acW) false ad
theorem ajL:az (Tv (M.xN)):=ba (cx:=Ic) true acz Tryz.func92 (aS (bU 1 (by kernel_rfl) (bY (.mk (by kernel_rfl) arw)))) ⟨⟨[.el U.cJ],[.el U.dm]⟩,fun x=>(x.1.1,x.2.1)⟩ (fun x=>by kernel_rfl)
def LR(m:Option ((List (List UInt8)))):aI K:={f:=84,sh:=⟨[],[]⟩,R:=(List (List UInt8)),run:=fun x=>m,dflt:=default,out:=fun r=>(Sh.enc D (.an U.str) r,aY.encs D [] ())}
theorem Tm:az (LR (M.jF)):=ba (cx:=gY) true ij Tryz.func84 (aS (aN (by kernel_rfl))) ⟨yw,fun x=>x.1.1⟩ (fun x=>by kernel_rfl)
def ajF(y:M.aC×(List UInt8)×(List UInt8)×M.aG×(List M.aG)×(List M.aG)){R:Type}(k:KT R):R:=match y with|a0=>kk k (Ex.exit 2) S9 (((),((),((),((),())))),(a0.1,((a0.2.1,((),())),((a0.2.2.1,((),())),(a0.2.2.2.1,((),((),(a0.2.2.2.2.1,(a0.2.2.2.2.2,())))))))))
