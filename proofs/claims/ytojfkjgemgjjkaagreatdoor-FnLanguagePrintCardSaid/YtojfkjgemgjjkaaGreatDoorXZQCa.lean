/-
  Part of the proof of the claim.
-/
import Derived.Test.YtojfkjgemgjjkaaGreatDoorXZQM
import Derived.Test.YtojfkjgemgjjkaaGreatDoorXXHdA
import Derived.Test.YtojfkjgemgjjkaaGreatDoorXXHdI
import Derived.Test.YtojfkjgemgjjkaaGreatDoorXXHdJ2
import Derived.Test.YtojfkjgemgjjkaaGreatDoorXXHdV
import Derived.Test.YtojfkjgemgjjkaaGreatDoorXWgD
import Derived.Test.YtojfkjgemgjjkaaGreatDoorProg
set_option linter.unusedVariables false
set_option maxRecDepth 100000
open Go Go.Proofs
open Go.V
noncomputable section
abbrev iq0:Go.V.Sh Go.V.K:=.int .i64
abbrev iq2:=Go.V.aK Go.V.K
abbrev zs0:iq2:=⟨[.bool],[]⟩
abbrev zs1:iq2:=⟨[.str],[]⟩
abbrev zs2:iq2:=⟨[.any],[]⟩
abbrev mz:iq2:=⟨[iq0],[]⟩
abbrev oo:iq2:=⟨[.ptr 0 0],[.el U.dm]⟩
abbrev qF:iq2:=⟨[.el U.bD],[]⟩
abbrev sr:iq2:=⟨[.str,iq0],[]⟩
abbrev su:iq2:=⟨[.str,iq0,iq0],[]⟩
abbrev uO:iq2:=⟨[.ptr 0 0],[.el U.parser]⟩
abbrev GU:iq2:=⟨[],[.box [.ax U.Token,iq0,.bool],.box [.ptr 0 0],.box [iq0,.str,iq0,.str,.own 7,.own 8,.own 9,.bool,.str,.str,.str,.own 10],.dead,.dead,.dead,.dead,.arr U.str,.arr U.Term,.arr U.d3,.arr U.eg]⟩
abbrev uK:iq2:=⟨[.ptr 0 0,.str,iq0],[.el U.bD]⟩
abbrev zq:iq2:=⟨[.int .u8],[]⟩
abbrev zr:iq2:=⟨[.ptr 0 0],[.box [.str,iq0,iq0,.own 2],.dead,.arr U.Token]⟩
abbrev zt:iq2:=⟨[.str],[.el U.parser]⟩
abbrev zi:iq2:=⟨[.str],[.dead]⟩
abbrev zj:iq2:=⟨[.any,.any,.bool],[.dead,.dead]⟩
abbrev FY:iq2:=⟨[.bool],[.dead,.dead]⟩
abbrev FZ:iq2:=⟨[.any],[.dead,.dead]⟩
abbrev zp:iq2:=⟨[.ptr 2 0,.ptr 3 0],[.box [.ax U.u8,iq0,.int .u64],.arr U.str,.box [iq0,.str,.own 8,.own 9],.box [iq0,.str,.own 10,.own 11],.dead,.dead,.dead,.dead,.arr U.str,.arr U.Term,.arr U.str,.arr U.Term]⟩
abbrev CO:iq2:=⟨[.ax U.str],[]⟩
abbrev Yj:iq2:=⟨[.any,iq0],[]⟩
abbrev Yk:iq2:=⟨[iq0,.any],[]⟩
abbrev GV:iq2:=⟨[],[.box [.str,iq0,iq0,.own 2],.dead,.arr U.Token]⟩
abbrev Gu:iq2:=⟨[.any],[.dead]⟩
abbrev GX:iq2:=⟨[.ptr 0 0,.str],[.el U.dm]⟩
abbrev GY:iq2:=⟨[.ptr 0 0,.str],[.el U.parser]⟩
abbrev GZ:iq2:=⟨[],[.box [.ax U.Token,iq0,.bool],.box [iq0,.str,.own 6,.own 7],.box [.ptr 0 0],.box [iq0],.dead,.dead,.arr U.str,.arr U.Term]⟩
abbrev G0:iq2:=⟨[],[.box [.ax U.Token,iq0,.bool],.box [.ptr 0 0],.box [iq0,.str,.own 7,.own 8],.box [.fn 141 [.ptr 2 0,.ptr 1 0,.ptr 6 0]],.dead,.dead,.box [iq0],.arr U.str,.arr U.Term]⟩
abbrev G5:iq2:=⟨[.ptr 0 0,.ptr 1 0,.ptr 2 0],[.el U.parser,.box [.str,.own 5],.box [.str,.own 6],.dead,.dead,.arr U.Item,.arr U.Item]⟩
abbrev G6:iq2:=⟨[.ptr 0 0,.ptr 1 0,.ptr 2 0],[.el U.parser,.box [.str,.own 5],.box [.str,.own 6],.dead,.dead,.arr U.fD,.arr U.fD]⟩
abbrev Yl:iq2:=⟨[.ptr 1 0,.ptr 2 0],[.box [.ax U.Token,iq0,.bool],.box [.str,.str,.own 7,.own 8],.box [.str,.str,.own 9,.own 10],.dead,.dead,.dead,.dead,.arr U.dk,.arr U.dN,.arr U.dk,.arr U.dN]⟩
abbrev G7:iq2:=⟨[.ptr 0 0,.own 6,.own 7,.ptr 3 0,.own 8,.own 9,.ax U.dk,iq0,iq0,.ax U.Item,iq0,iq0],[.el U.bD,.dead,.dead,.el U.dk,.dead,.dead,.arr U.str,.arr U.str,.arr U.str,.arr U.str]⟩
abbrev Ym:iq2:=⟨[.any,.any,.any,.bool],[.dead,.dead,.dead,.dead,.dead]⟩
abbrev Yn:iq2:=⟨[.ptr 0 0,.own 3,.own 4,.any],[.el U.bD,.dead,.dead,.arr U.str,.arr U.str]⟩
abbrev FQ:iq2:=⟨[.own 3,.own 4],[.dead,.dead,.dead,.arr U.str,.arr U.str]⟩
abbrev FR:iq2:=⟨[.ptr 0 0,.own 3,.own 4,iq0],[.el U.bD,.dead,.dead,.arr U.str,.arr U.str]⟩
abbrev FX:iq2:=⟨[.ptr 0 0,.ptr 1 0,iq0],[.el U.Term,.el U.Term]⟩
abbrev Ge:iq2:=⟨[.ptr 0 0,.ptr 1 0,.ax U.dk,iq0,iq0],[.el U.bD,.box [.np 1,.own 3],.dead,.arr U.u8]⟩
abbrev Gf:iq2:=⟨[.ptr 0 0,.own 3,.ax U.dN,iq0,iq0],[.box [.np 0,.own 4],.dead,.dead,.arr U.str,.arr U.u8]⟩
abbrev Gm:iq2:=⟨[.any,.bool],[.dead]⟩
abbrev Gp:iq2:=⟨[.any,.any,.bool],[.dead]⟩
abbrev Gq:iq2:=⟨[.ptr 0 0,iq0,.any],[.el U.bD]⟩
abbrev Gs:iq2:=⟨[.ptr 0 0,iq0,iq0],[.el U.bD]⟩
abbrev Gt:iq2:=⟨[.ptr 0 0,iq0],[.el U.bD]⟩
abbrev Gv:iq2:=⟨[.ptr 0 0,.str,iq0],[.el U.Item]⟩
abbrev Gw:iq2:=⟨[.ptr 0 0,.str,iq0,iq0],[.el U.bD]⟩
abbrev Gx:iq2:=⟨[.ptr 0 0,.ptr 1 0,iq0],[.el U.Item,.el U.Item]⟩
abbrev Gy:iq2:=⟨[.any,.any,.any,.bool],[.dead,.dead]⟩
abbrev Gz:iq2:=⟨[.ptr 0 0,.ptr 1 0,iq0,.any],[.el U.bD,.el U.bD]⟩
abbrev GF:iq2:=⟨[.ptr 0 0,.ptr 1 0,iq0,iq0],[.el U.bD,.el U.bD]⟩
abbrev GG:iq2:=⟨[.ptr 0 0,.ptr 1 0,iq0],[.el U.bD,.el U.bD]⟩
abbrev GM:iq2:=⟨[.ptr 0 0,.own 1,iq0,.ptr 2 0,.ptr 3 0,iq0,iq0],[.el U.dP,.arr U.str,.box [iq0,.str,.own 8,.own 9],.box [iq0,.str,.own 10,.own 11],.dead,.dead,.dead,.dead,.arr U.str,.arr U.Term,.arr U.str,.arr U.Term]⟩
abbrev GO:iq2:=⟨[.ptr 0 0,.ptr 1 0,.ptr 2 0,.own 6,iq0],[.el U.dP,.box [.str,.own 7],.box [.str,.own 8],.dead,.dead,.dead,.arr U.str,.arr U.Item,.arr U.Item]⟩
abbrev Nh:iq2:=⟨[.bB []],[.el U.dm]⟩
abbrev Ni:iq2:=⟨[.str],[.el U.dm]⟩
abbrev Nj:iq2:=⟨[.bB []],[.el U.parser,.box [iq0,.str,.own 6,.own 7],.box [.ptr 0 0],.box [iq0],.dead,.dead,.arr U.str,.arr U.Term]⟩
abbrev MH:iq2:=⟨[.el U.Item],[.el U.dm]⟩
abbrev MZ:iq2:=⟨[.el U.bD,.el U.bD],[]⟩
abbrev M8:iq2:=⟨[iq0],[.el U.dP]⟩
abbrev Yo:iq2:=⟨[.any,.any,.any,.any,iq0],[]⟩
abbrev Yp:iq2:=⟨[.str,iq0,iq0,iq0,.any],[]⟩
abbrev Yq:iq2:=⟨[.str,iq0,iq0,iq0,iq0],[]⟩
abbrev Yr:iq2:=⟨[iq0,.ax U.str,iq0,iq0],[]⟩
abbrev Ys:iq2:=⟨[.ax U.str,.str,iq0,iq0],[]⟩
abbrev Yt:iq2:=⟨[.any,.any,iq0,iq0],[]⟩
abbrev Yu:iq2:=⟨[iq0,iq0,.any,.any],[]⟩
abbrev Yv:iq2:=⟨[.any,.any,.own 2,iq0,iq0],[.dead,.dead,.arr U.Token]⟩
abbrev Yw:iq2:=⟨[.own 1,iq0,.any,.any,.any],[.dead,.arr U.Token]⟩
abbrev Yx:iq2:=⟨[.str,.own 1,iq0,iq0],[.dead,.arr U.Token]⟩
abbrev Yy:iq2:=⟨[.bB [.ax U.Token,iq0,iq0]],[]⟩
abbrev Yz:iq2:=⟨[.any,.dn,iq0,iq0],[.dead,.dead,.dead]⟩
abbrev YA:iq2:=⟨[.ptr 0 0,.any,.any,.any],[.box [.str,iq0,iq0,.own 2],.dead,.arr U.Token]⟩
abbrev YB:iq2:=⟨[.str,.ptr 0 0],[.box [.str,iq0,iq0,.own 2],.dead,.arr U.Token]⟩
abbrev YC:iq2:=⟨[.str,.own 1,iq0],[.dead,.arr U.str]⟩
abbrev YD:iq2:=⟨[.ptr 0 0,iq0,.fn 141 [.ptr 1 0,.ptr 2 0,.ptr 3 0],iq0],[.el U.parser,.box [iq0,.str,.own 6,.own 7],.box [.ptr 0 0],.box [iq0],.dead,.dead,.arr U.str,.arr U.Term]⟩
abbrev YE:iq2:=⟨[],[.box [iq0,.str,.own 3,.own 4],.dead,.dead,.arr U.str,.arr U.Term]⟩
abbrev YF:iq2:=⟨[.ptr 0 0],[.box [iq0,.str,.own 3,.own 4],.dead,.dead,.arr U.str,.arr U.Term]⟩
abbrev YG:iq2:=⟨[.ptr 0 0,.ptr 1 0,.fn 141 [.ptr 1 0,.ptr 2 0,.ptr 3 0]],[.el U.parser,.box [iq0,.str,.own 4,.own 5],.box [.ptr 0 0],.box [iq0],.arr U.str,.arr U.Term]⟩
abbrev YH:iq2:=⟨[.ptr 0 0,iq0,.fn 143 [.ptr 1 0,.ptr 2 0,.ptr 3 0],iq0],[.el U.parser,.box [.ptr 0 0],.box [iq0,.str,.own 7,.own 8],.box [.fn 141 [.ptr 2 0,.ptr 1 0,.ptr 6 0]],.dead,.dead,.box [iq0],.arr U.str,.arr U.Term]⟩
abbrev YI:iq2:=⟨[.ptr 0 0,.ptr 1 0],[.box [.ptr 2 0],.box [iq0,.str,iq0,.str,.own 3,.own 4,.own 5,.bool,.str,.str,.str,.own 6],.box [.ax U.Token,iq0,.bool],.arr U.str,.arr U.Term,.arr U.d3,.arr U.eg]⟩
abbrev YJ:iq2:=⟨[.bB []],[.box [.ptr 2 0],.box [iq0,.str,iq0,.str,.own 7,.own 8,.own 9,.bool,.str,.str,.str,.own 10],.box [.ax U.Token,iq0,.bool],.dead,.dead,.dead,.dead,.arr U.str,.arr U.Term,.arr U.d3,.arr U.eg]⟩
abbrev YK:iq2:=⟨[.ptr 0 0,iq0,.fn 137 [.ptr 1 0,.ptr 2 0],iq0],[.el U.parser,.box [.ptr 0 0],.box [iq0,.str,iq0,.str,.own 7,.own 8,.own 9,.bool,.str,.str,.str,.own 10],.dead,.dead,.dead,.dead,.arr U.str,.arr U.Term,.arr U.d3,.arr U.eg]⟩
abbrev YL:iq2:=⟨[.bB []],[.el U.parser,.box [.ptr 0 0],.box [iq0,.str,iq0,.str,.own 7,.own 8,.own 9,.bool,.str,.str,.str,.own 10],.dead,.dead,.dead,.dead,.arr U.str,.arr U.Term,.arr U.d3,.arr U.eg]⟩
abbrev YM:iq2:=⟨[.ptr 0 0,iq0,.fn 104 [.ptr 1 0,.ptr 2 0],iq0],[.el U.parser,.box [.ptr 0 0],.box [iq0,.str,iq0,.str,.own 7,.own 8,.own 9,.bool,.str,.str,.str,.own 10],.dead,.dead,.dead,.dead,.arr U.str,.arr U.Term,.arr U.d3,.arr U.eg]⟩
abbrev YN:iq2:=⟨[],[.box [.ax U.Token,iq0,.bool],.box [iq0,.str,.own 4,.own 5],.dead,.dead,.arr U.str,.arr U.Term]⟩
abbrev YO:iq2:=⟨[.ptr 0 0,.ptr 1 0,iq0],[.el U.dm,.box [iq0,.str,.own 4,.own 5],.dead,.dead,.arr U.str,.arr U.Term]⟩
abbrev YP:iq2:=⟨[.ptr 1 0,.ptr 2 0],[.box [.ax U.Token,iq0,.bool],.box [iq0,.str,.own 7,.own 8],.box [iq0,.str,.own 9,.own 10],.dead,.dead,.dead,.dead,.arr U.str,.arr U.Term,.arr U.str,.arr U.Term]⟩
abbrev YQ:iq2:=⟨[.ptr 0 0,iq0,.ptr 1 0,.ptr 2 0],[.el U.dm,.box [iq0,.str,.own 7,.own 8],.box [iq0,.str,.own 9,.own 10],.dead,.dead,.dead,.dead,.arr U.str,.arr U.Term,.arr U.str,.arr U.Term]⟩
abbrev YR:iq2:=⟨[.ptr 0 0,.ptr 1 0,.ptr 2 0],[.el U.parser,.box [.str,.str,.own 7,.own 8],.box [.str,.str,.own 9,.own 10],.dead,.dead,.dead,.dead,.arr U.dk,.arr U.dN,.arr U.dk,.arr U.dN]⟩
abbrev YS:iq2:=⟨[.ptr 0 0,.own 6,.own 7,.ptr 3 0,.own 8,.own 9,.ax U.dk,iq0,iq0,.ax U.Item,iq0,iq0,.ax U.eg,iq0,iq0],[.el U.bD,.dead,.dead,.el U.dk,.dead,.dead,.arr U.str,.arr U.str,.arr U.str,.arr U.str]⟩
abbrev YT:iq2:=⟨[.ptr 0 0,.own 6,.own 7,.ptr 3 0,.own 8,.own 9,.ax U.dk,iq0,iq0],[.el U.bD,.dead,.dead,.el U.dk,.dead,.dead,.arr U.str,.arr U.str,.arr U.str,.arr U.str]⟩
abbrev YU:iq2:=⟨[.ptr 0 0,.own 3,.own 4,.ax U.dk,iq0,iq0],[.el U.bD,.dead,.dead,.arr U.str,.arr U.str]⟩
abbrev YV:iq2:=⟨[.own 2,.own 3],[.dead,.dead,.arr U.str,.arr U.str]⟩
abbrev YW:iq2:=⟨[.own 2,.own 3,.ax U.dN,iq0,iq0],[.dead,.dead,.arr U.str,.arr U.str]⟩
abbrev Vh:iq2:=⟨[.bB [.el U.bD,iq0,iq0]],[]⟩
abbrev YX:iq2:=⟨[.own 2],[.box [.ax U.Token,iq0,.bool],.dead,.arr U.d3]⟩
abbrev YY:iq2:=⟨[.ptr 0 0,.own 2],[.el U.dm,.dead,.arr U.d3]⟩
abbrev YZ:iq2:=⟨[.ptr 1 0,.ptr 2 0],[.box [.ax U.Token,iq0,.bool],.box [iq0,.str,iq0,.str,.own 11,.own 12,.own 13,.bool,.str,.str,.str,.own 14],.box [iq0,.str,iq0,.str,.own 15,.own 16,.own 17,.bool,.str,.str,.str,.own 18],.dead,.dead,.dead,.dead,.dead,.dead,.dead,.dead,.arr U.str,.arr U.Term,.arr U.d3,.arr U.eg,.arr U.str,.arr U.Term,.arr U.d3,.arr U.eg]⟩
abbrev Uu:iq2:=⟨[.ptr 0 0,.ptr 1 0,.ptr 2 0],[.el U.dm,.box [iq0,.str,iq0,.str,.own 11,.own 12,.own 13,.bool,.str,.str,.str,.own 14],.box [iq0,.str,iq0,.str,.own 15,.own 16,.own 17,.bool,.str,.str,.str,.own 18],.dead,.dead,.dead,.dead,.dead,.dead,.dead,.dead,.arr U.str,.arr U.Term,.arr U.d3,.arr U.eg,.arr U.str,.arr U.Term,.arr U.d3,.arr U.eg]⟩
abbrev UC:iq2:=⟨[.ptr 1 0,.ptr 2 0],[.box [.ax U.Token,iq0,.bool],.box [.str,.own 5],.box [.str,.own 6],.dead,.dead,.arr U.Item,.arr U.Item]⟩
abbrev UE:iq2:=⟨[.ptr 0 0,.ptr 1 0,.ptr 2 0],[.el U.dm,.box [.str,.own 5],.box [.str,.own 6],.dead,.dead,.arr U.Item,.arr U.Item]⟩
abbrev UI:iq2:=⟨[.ptr 0 0,.ptr 1 0,.ptr 2 0,.ptr 3 0],[.el U.dm,.box [.str,.own 6],.box [.str,.own 7],.el U.fD,.dead,.dead,.arr U.fD,.arr U.fD]⟩
abbrev UK:iq2:=⟨[.ptr 0 0,.ptr 1 0,.ptr 2 0,.ptr 3 0,iq0],[.el U.dm,.box [.str,.own 6],.box [.str,.own 7],.el U.fD,.dead,.dead,.arr U.fD,.arr U.fD]⟩
abbrev UL:iq2:=⟨[.ptr 1 0,.ptr 2 0],[.box [.ax U.Token,iq0,.bool],.box [.str,.own 5],.box [.str,.own 6],.dead,.dead,.arr U.fD,.arr U.fD]⟩
abbrev UN:iq2:=⟨[.ptr 0 0,.ptr 1 0,.ptr 2 0],[.el U.dm,.box [.str,.own 5],.box [.str,.own 6],.dead,.dead,.arr U.fD,.arr U.fD]⟩
abbrev UQ:iq2:=⟨[.ptr 0 0,.ptr 1 0,.ptr 2 0],[.el U.dm,.box [.str,.str,.own 7,.own 8],.box [.str,.str,.own 9,.own 10],.dead,.dead,.dead,.dead,.arr U.dk,.arr U.dN,.arr U.dk,.arr U.dN]⟩
abbrev UY:iq2:=⟨[.ptr 0 0,.own 4,.own 5,iq0],[.el U.dk,.dead,.dead,.dead,.arr U.str,.arr U.str]⟩
abbrev U0:iq2:=⟨[.ptr 0 0,.own 4,.own 5,iq0,.ptr 3 0,iq0],[.el U.dk,.dead,.dead,.el U.Item,.arr U.str,.arr U.str]⟩
abbrev U2:iq2:=⟨[.ptr 0 0,.own 3,.own 4,iq0],[.el U.dk,.dead,.dead,.arr U.str,.arr U.str]⟩
abbrev U5:iq2:=⟨[.ax U.str,iq0,iq0],[]⟩
abbrev Vj:iq2:=⟨[iq0,.ptr 0 0,iq0,iq0],[.el U.Term]⟩
abbrev Vs:iq2:=⟨[.ptr 0 0,.str,iq0],[.el U.Term]⟩
abbrev Vz:iq2:=⟨[.ptr 0 0,.ptr 1 0,.any],[.el U.Term,.el U.Term]⟩
abbrev VG:iq2:=⟨[.ax U.str,.ax U.str,iq0,iq0],[]⟩
abbrev VM:iq2:=⟨[.ax U.Term,.fn 110 [.rp U.i64 0],.ax U.Term,iq0,iq0],[]⟩
abbrev VS:iq2:=⟨[.ptr 0 0,.str,.own 2],[.el U.Term,.dead,.arr U.str]⟩
abbrev VU:iq2:=⟨[iq0,.ptr 0 0,.str,.own 2,.ax U.Term,iq0,iq0],[.el U.Term,.dead,.arr U.str]⟩
abbrev VX:iq2:=⟨[.ax U.str,.ptr 0 0,.own 2,.ax U.str,iq0,iq0],[.el U.Term,.dead,.arr U.str]⟩
abbrev V4:iq2:=⟨[.ptr 0 0,.own 2],[.el U.Item,.dead,.arr U.str]⟩
abbrev V6:iq2:=⟨[.ptr 0 0,.own 2,.ax U.eg,iq0,iq0],[.el U.Item,.dead,.arr U.str]⟩
abbrev V8:iq2:=⟨[.ptr 0 0,.own 2,.str],[.el U.Item,.dead,.arr U.str]⟩
abbrev Wa:iq2:=⟨[.ptr 0 0,.own 2,.str,.ax U.d3,iq0,iq0],[.el U.Item,.dead,.arr U.str]⟩
abbrev We:iq2:=⟨[.ptr 0 0,.ptr 1 0,.ax U.dk,iq0,iq0,.ax U.Item,iq0,iq0],[.el U.bD,.box [.np 1,.own 3],.dead,.arr U.u8]⟩
abbrev Wg:iq2:=⟨[.ptr 0 0,.ptr 1 0],[.el U.bD,.box [.np 1,.own 3],.dead,.arr U.u8]⟩
abbrev Wj:iq2:=⟨[.ptr 0 0,.own 3,.ax U.dN,iq0,iq0,.ax U.fD,iq0,iq0],[.box [.np 0,.own 4],.dead,.dead,.arr U.str,.arr U.u8]⟩
abbrev Wl:iq2:=⟨[.ptr 0 0],[.box [.np 0,.own 3],.dead,.dead,.arr U.u8]⟩
abbrev Wq:iq2:=⟨[.ax U.eg,.ax U.eg,iq0,iq0],[]⟩
abbrev Wy:iq2:=⟨[.ax U.d3,.fn 77 [],.ax U.d3,iq0,iq0],[]⟩
abbrev WH:iq2:=⟨[.ax U.Item,.fn 40 [],.ax U.Item,iq0,iq0],[]⟩
abbrev WO:iq2:=⟨[.ax U.dk,.fn 38 [],.ax U.dk,iq0,iq0],[]⟩
abbrev WT:iq2:=⟨[.ax U.fD,.ax U.fD,iq0,iq0],[]⟩
abbrev WZ:iq2:=⟨[.ax U.dN,.fn 42 [],.ax U.dN,iq0,iq0],[]⟩
abbrev Xt:iq2:=⟨[.ptr 0 0,.ptr 1 0,.any],[.el U.Item,.el U.Item]⟩
abbrev Xy:iq2:=⟨[.ptr 0 0,.ptr 1 0,.any],[.el U.bD,.el U.bD]⟩
abbrev XQ:iq2:=⟨[.ptr 0 0,.own 1,iq0,.ptr 2 0,.ptr 3 0,iq0],[.el U.dP,.arr U.str,.box [iq0,.str,.own 8,.own 9],.box [iq0,.str,.own 10,.own 11],.dead,.dead,.dead,.dead,.arr U.str,.arr U.Term,.arr U.str,.arr U.Term]⟩
abbrev XU:iq2:=⟨[.ptr 0 0,.ptr 1 0,.ptr 2 0,.own 6],[.el U.dP,.box [.str,.own 7],.box [.str,.own 8],.dead,.dead,.dead,.arr U.str,.arr U.Item,.arr U.Item]⟩
abbrev XW:iq2:=⟨[.ptr 0 0,.ptr 1 0,.ptr 2 0,.own 11,iq0,.ptr 4 0],[.el U.dP,.box [.str,.own 12],.box [.str,.own 13],.dead,.box [iq0,.str,iq0,.str,.own 14,.own 15,.own 16,.bool,.str,.str,.str,.own 17],.dead,.dead,.dead,.dead,.dead,.dead,.arr U.str,.arr U.Item,.arr U.Item,.arr U.str,.arr U.Term,.arr U.d3,.arr U.eg]⟩
abbrev XY:iq2:=⟨[.ptr 0 0,.ptr 1 0,.ptr 2 0,.own 11,iq0,.ptr 4 0,iq0],[.el U.dP,.box [.str,.own 12],.box [.str,.own 13],.dead,.box [iq0,.str,iq0,.str,.own 14,.own 15,.own 16,.bool,.str,.str,.str,.own 17],.dead,.dead,.dead,.dead,.dead,.dead,.arr U.str,.arr U.Item,.arr U.Item,.arr U.str,.arr U.Term,.arr U.d3,.arr U.eg]⟩
abbrev XZ:iq2:=⟨[.ptr 1 0,.ptr 2 0],[.box [.ax U.u8,iq0,.int .u64],.box [.str,.own 6],.box [.str,.own 7],.dead,.dead,.dead,.arr U.Item,.arr U.Item]⟩
abbrev X5:iq2:=⟨[.ptr 0 0,.own 6,iq0,.ptr 2 0,.own 7],[.el U.dP,.dead,.box [.str,.str,.own 8,.own 9],.dead,.dead,.dead,.arr U.bD,.arr U.Path,.arr U.dk,.arr U.dN]⟩
abbrev X7:iq2:=⟨[.ptr 0 0,.own 6,iq0,.ptr 2 0,.own 7,iq0],[.el U.dP,.dead,.box [.str,.str,.own 8,.own 9],.dead,.dead,.dead,.arr U.bD,.arr U.Path,.arr U.dk,.arr U.dN]⟩
abbrev X8:iq2:=⟨[.ptr 0 0,.own 7,iq0,.ptr 2 0,.ptr 3 0],[.el U.dP,.dead,.box [.str,.str,.own 8,.own 9],.box [.str,.own 10],.dead,.dead,.dead,.arr U.bD,.arr U.dk,.arr U.dN,.arr U.fD]⟩
abbrev Ya:iq2:=⟨[.ptr 0 0,.own 7,iq0,.ptr 2 0,.ptr 3 0,iq0],[.el U.dP,.dead,.box [.str,.str,.own 8,.own 9],.box [.str,.own 10],.dead,.dead,.dead,.arr U.bD,.arr U.dk,.arr U.dN,.arr U.fD]⟩
abbrev Yb:iq2:=⟨[.own 2],[.box [.ax U.u8,iq0,.int .u64],.dead,.arr U.bD]⟩
abbrev Yd:iq2:=⟨[.ptr 0 0,.own 2,iq0],[.el U.dP,.dead,.arr U.bD]⟩
def Nk:Go.TypeId->Option U:=gW [(2,U.i64),(3,U.i64),(4,U.bool),(5,U.u8),(6,U.u8),(9,U.str),(10,U.str),(11,U.str),(12,U.u64),(21,U.i32),(22,U.wL),(23,U.wy),(24,U.wH),(26,U.bD),(34,U.wA),(47,U.wK),(48,U.wB),(50,U.Path),(51,U.wz),(53,U.dk),(56,U.wI),(58,U.dN),(60,U.wJ),(62,U.fD),(63,U.u64),(65,U.dP),(66,U.wF),(70,U.parser),(72,U.Token),(78,U.wC),(80,U.Term),(81,U.wE),(82,U.wG),(84,U.Item),(86,U.eg),(100,U.d3),(105,U.dm),(119,U.mY),(134,U.u64),(182,U.i64),(190,U.u32),(201,U.u64),(210,U.i64),(250,U.u8),(251,U.u8),(253,U.i32),(254,U.i32)]
def amW:Go.TypeId->List (Option U):=iK [] [(22,[some U.u8]),(23,[some U.dk]),(24,[some U.dN]),(26,[none,none,some U.dk,some U.dN]),(34,[some U.bD]),(47,[some U.str]),(48,[some U.Path]),(51,[some U.Item]),(53,[none,some U.Item]),(56,[some U.fD]),(58,[none,some U.fD]),(60,[some U.i64]),(65,[some U.u8,none,none]),(66,[some U.Token]),(70,[some U.Token,none,none]),(78,[some U.Term]),(80,[none,none,some U.str,some U.Term]),(81,[some U.d3]),(82,[some U.eg]),(84,[none,none,none,none,some U.str,some U.Term,some U.d3,none,none,none,none,some U.eg]),(100,[none,none,none,some U.str,some U.Term]),(105,[some U.Token,none,none]),(112,[none,some U.u8]),(119,[none,none,none,some U.Token])]
theorem fg:Tryz.prog.follows .mixedOrders=true:=by kernel_rfl
abbrev aB(c:aM K):Prop:=c.Ok D Tryz.prog
abbrev KT(R:Type):=Ex->List (AV K)->List (Ob K)->R
def kk{R:Type}(k:KT R)(e:Ex)(s:aK K)(v:s.T):R:=k e (aK.l5 D s v) (aK.mO D s v)
def cB(f:FuncId)(sh:aK K)(run:sh.T->Option Bool):aM K:={f:=f,sh:=sh,R:=Bool,run:=run,dflt:=default,out:=fun r=>(Sh.enc D (.bool) r,aU.encs D [] ())}
def cI(f:FuncId)(sh:aK K)(run:sh.T->Option Int):aM K:={f:=f,sh:=sh,R:=Int,run:=run,dflt:=default,out:=fun r=>(Sh.enc D (.int .i64) r,aU.encs D [] ())}
def cS(f:FuncId)(sh:aK K)(run:sh.T->Option (List UInt8)):aM K:={f:=f,sh:=sh,R:=List UInt8,run:=run,dflt:=default,out:=fun r=>(Sh.enc D (.str) r,aU.encs D [] ())}
def jN:Cx K:={P:=Tryz.prog,D:=D,ty:=Nk,oC:=amW,mode:=iK .plain [],call:=callOf D [],loop:=gW []}
def bK(m:List (FuncId×Go.V.Mode))(c:List (aM K))(l:List (Nat×bQ K)):Cx K:={jN with mode:=iK .plain m,call:=callOf D c,loop:=gW l}
theorem hq{cx:Cx K}{fn:Func}(h:(jX (bP fn)).length=0:=by kernel_rfl):∀c,fn.body=some c->iJ cx c:=Es (ry h)
theorem hl1{cx:Cx K}{fn:Func}{L:bQ K}(o:bR cx (bC (bP fn) 0) L)(h:(jX (bP fn)).length=1:=by kernel_rfl)(k:cx.loop (keyOf (bC (bP fn) 0))=some L:=by kernel_rfl):∀c,fn.body=some c->iJ cx c:=Es (ja 1 h (jr (.mk k o)))
theorem hl2{cx:Cx K}{fn:Func}{L M:bQ K}(o:bR cx (bC (bP fn) 0) L)(p:bR cx (bC (bP fn) 1) M)(h:(jX (bP fn)).length=2:=by kernel_rfl)(k:cx.loop (keyOf (bC (bP fn) 0))=some L:=by kernel_rfl)(l:cx.loop (keyOf (bC (bP fn) 1))=some M:=by kernel_rfl):∀c,fn.body=some c->iJ cx c:=Es (ja 2 h (lt_succ (jr (.mk k o)) (.mk l p)))
theorem lk{cx:Cx K}{c:Code}{n n0:Nat}{ins outs:List Nat}{sh:aK K}{Y:Type}{run:Nat->sh.T->Option Y}{bU:List (cC K Y)}{out:Y->{R:Type}->(Ex->List (AV K)->List (Ob K)->R)->R}(hc:ba cx)(hs:∀m x,gn cx c (vE cx.D n ins sh x) (Ks cx n n0 ins outs sh (run m) (xP cx.D bU))=run (m+1) x)(hx:∀d∈bU,d.e≠.normal/\∀x (R:Type) (k:Ex->List (AV K)->List (Ob K)->R),out (d.conv x) k=k d.e (d.sh.l5 cx.D x) (d.sh.mO cx.D x))(hl:iJ cx c:=by exact ry (by kernel_rfl))(hD:bT cx.D:=by exact aY)(hm:cx.P.follows .mixedOrders=true:=by exact fg)(h0:∀x,run 0 x=none:=by exact fun _=>rfl):bR cx c (bV cx.D false n n0 ins outs sh (run ae) out):=pR hD hc hm hl h0 hs hx false ae
theorem bw{cx:Cx K}(fz:Bool)(hc:ba cx){c:aM K}{fn:Func}(hg:cx.P.funcs[c.f]?=some fn)(hl:∀b,fn.body=some b->iJ cx b)(d:Av K cx.D c.R)(he:∀x,Ep cx fz fn (c.sh.l5 cx.D x) (c.sh.mO cx.D x) d.fin=c.run x)(hD:bT cx.D:=by exact aY)(hm:cx.P.follows .mixedOrders=true:=by exact fg)(hn:(fn.name== "runtime.NumGoroutine")=false:=by kernel_rfl)(ho:∀x,([(c.out (d.conv x)).1],(c.out (d.conv x)).2)=(d.sh.l5 cx.D x,d.sh.mO cx.D x):=by exact fun x=>rfl):c.Ok cx.D cx.P:=ij hD hc hm ⟨hg,hn⟩ hl d ho he
def Nl(m:Int->Option Bool):aM K:=cB 95 zq (fun x=>m x.1.1)
def iQ:Cx K:=bK [] [] []
theorem jh:ba iQ:=bA aY _ aF
theorem Y0:aB (Nl (M.Nn)):=bw (cx:=iQ) true jh Tryz.func95 hq ⟨zs0,fun x=>x.1.1⟩ (fun x=>by kernel_rfl)
def Np(m:Int->Option Bool):aM K:=cB 97 zq (fun x=>m x.1.1)
theorem Y1:aB (Np (M.Nq)):=bw (cx:=iQ) true jh Tryz.func97 hq ⟨zs0,fun x=>x.1.1⟩ (fun x=>by kernel_rfl)
def CP(m:Int->Int->Int->Option Bool):aM K:=cB 49 ⟨[iq0,iq0,iq0],[]⟩ (fun x=>m x.1.1 x.1.2.1 x.1.2.2.1)
theorem FU:aB (CP (M.CQ)):=bw (cx:=iQ) true jh Tryz.func49 hq ⟨zs0,fun x=>x.1.1⟩ (fun x=>by kernel_rfl)
def pw(y:Bool⊕Unit){R:Type}(k:KT R):R:=match y with|.inl a0=>kk k Ex.ret zs0 ((a0,()),())|.inr a1=>kk k (Ex.exit 0) zs2 (((),()),())
def px:List (cC K ((Bool)⊕Unit)):=[⟨Ex.ret,zs0,fun x=>.inl x.1.1⟩,⟨(Ex.exit 0),zs2,fun x=>.inr (())⟩]
def Y2:bQ K:=bV D false 69 0 [0,3] [2] sr (fun x=>M.wv x.1.1 ae x.1.2.1) pw
def Y3(m:(List UInt8)->Option Bool):aM K:=cB 148 zs1 (fun x=>m x.1.1)
def G8:Cx K:=bK [] [] [(4,Y2)]
theorem Y4:ba G8:=bA aY _ aF
theorem amX:bR G8 (bC (bP Tryz.f148) 0) Y2:=lk (cx:=G8) (sh:=sr) (run:=fun n x=>M.wv x.1.1 n x.1.2.1) (bU:=px) Y4 (fun m x=>by kernel_rfl) (ah ⟨dR,fun _ _ _=>rfl⟩ (ah ⟨cf,fun _ _ _=>rfl⟩ aF))
theorem amY:aB (Y3 (M.CB)):=bw (cx:=G8) true Y4 Tryz.func148 (hl1 amX) ⟨zs0,fun x=>x.1.1⟩ (fun x=>by kernel_rfl)
def F7(m:Int->Int->Int->Option Bool):aM K:=cB 60 ⟨[iq0,iq0,iq0],[]⟩ (fun x=>m x.1.1 x.1.2.1 x.1.2.2.1)
theorem MU:aB (F7 (M.F8)):=bw (cx:=iQ) true jh Tryz.func60 hq ⟨zs0,fun x=>x.1.1⟩ (fun x=>by kernel_rfl)
def amZ(y:Bool⊕((List UInt8))){R:Type}(k:KT R):R:=match y with|.inl a0=>kk k Ex.ret ⟨[.any,.bool],[]⟩ (((),(a0,())),())|.inr a1=>kk k (Ex.exit 0) ⟨[.str,.any],[]⟩ ((a1,((),())),())
def am0:List (cC K ((Bool)⊕((List UInt8)))):=[⟨Ex.ret,⟨[.any,.bool],[]⟩,fun x=>.inl x.1.2.1⟩,⟨(Ex.exit 0),⟨[.str,.any],[]⟩,fun x=>.inr (x.1.1)⟩]
def Y5:bQ K:=bV D false 75 0 [0,7,8] [0,2] su (fun x=>M.uH x.1.1 x.1.2.1 ae x.1.2.2.1) amZ
def Nr(m:(List UInt8)->Option Bool):aM K:=cB 66 zs1 (fun x=>m x.1.1)
def G9:Cx K:=bK [] [] [(2,Y5)]
theorem Y6:ba G9:=bA aY _ aF
theorem am1:bR G9 (bC (bP Tryz.f66) 0) Y5:=lk (cx:=G9) (sh:=su) (run:=fun n x=>M.uH x.1.1 x.1.2.1 n x.1.2.2.1) (bU:=am0) Y6 (fun m x=>by kernel_rfl) (ah ⟨dR,fun _ _ _=>rfl⟩ (ah ⟨cf,fun _ _ _=>rfl⟩ aF))
theorem Y7:aB (Nr (M.wu)):=bw (cx:=G9) true Y6 Tryz.func66 (hl1 am1) ⟨zs0,fun x=>x.1.1⟩ (fun x=>by kernel_rfl)
def am2(y:Int⊕((List UInt8)×Int×Int×Int)){R:Type}(k:KT R):R:=match y with|.inl a0=>kk k Ex.ret Yo (((),((),((),((),(a0,()))))),())|.inr a1=>kk k (Ex.exit 0) Yp ((a1.1,(a1.2.1,(a1.2.2.1,(a1.2.2.2,((),()))))),())
def am3:List (cC K ((Int)⊕((List UInt8)×Int×Int×Int))):=[⟨Ex.ret,Yo,fun x=>.inl x.1.2.2.2.2.1⟩,⟨(Ex.exit 0),Yp,fun x=>.inr ((x.1.1,x.1.2.1,x.1.2.2.1,x.1.2.2.2.1))⟩]
def Y8:bQ K:=bV D false 71 0 [0,3,4,5,6] [0,3,4,5,2] Yq (fun x=>M.qD x.1.1 ae x.1.2.1 x.1.2.2.1 x.1.2.2.2.1 x.1.2.2.2.2.1) am2
def wP(m:Int->Option ((List UInt8))):aM K:=cS 191 mz (fun x=>m x.1.1)
def Y9(ov:Int->Option ((List UInt8))):Cx K:=bK [(191,.plain)] [wP ov] []
theorem am4(ov:Int->Option ((List UInt8)))(Ns:aB (wP ov)):ba (Y9 ov):=bA aY _ (ah Ns aF)
theorem am5(ov:Int->Option ((List UInt8)))(Ns:aB (wP ov)):aB (wP (M.yZ ov)):=ij (cx:=Y9 ov) (fz:=true) aY (am4 ov Ns) fg ⟨Tryz.func191,by kernel_rfl⟩ hq ⟨zs1,fun x=>x.1.1⟩ (fun x=>rfl) (fun x=>by kernel_rfl)
theorem Za:∀n,aB (wP (M.qC n))|0=>pS fun _=>rfl|n+1=>am5 (M.qC n) (Za n)
theorem am6:aB (wP (M.wx)):=Za ae
def Zb(m:Int->Option ((List UInt8))):aM K:=cS 171 mz (fun x=>m x.1.1)
def Zc:Cx K:=bK [(191,.plain)] [wP M.wx] []
theorem am7:ba Zc:=bA aY _ (ah am6 aF)
theorem am8:aB (Zb (M.CH)):=bw (cx:=Zc) true am7 Tryz.func171 hq ⟨zs1,fun x=>x.1.1⟩ (fun x=>by kernel_rfl)
def Zd(m:(List UInt8)->Option Int):aM K:=cI 149 zs1 (fun x=>m x.1.1)
def Ha:Cx K:=bK [(49,.plain),(171,.plain)] [CP M.CQ,Zb M.CH] [(3,Y8)]
theorem Ze:ba Ha:=bA aY _ (ah FU (ah am8 aF))
theorem am9:bR Ha (bC (bP Tryz.f149) 0) Y8:=lk (cx:=Ha) (sh:=Yq) (run:=fun n x=>M.qD x.1.1 n x.1.2.1 x.1.2.2.1 x.1.2.2.2.1 x.1.2.2.2.2.1) (bU:=am3) Ze (fun m x=>by kernel_rfl) (ah ⟨dR,fun _ _ _=>rfl⟩ (ah ⟨cf,fun _ _ _=>rfl⟩ aF))
theorem ana:aB (Zd (M.CL)):=bw (cx:=Ha) true Ze Tryz.func149 (hl1 am9) ⟨mz,fun x=>x.1.1⟩ (fun x=>by kernel_rfl)
def Zf(m:(List UInt8)->Option Bool):aM K:=cB 118 zs1 (fun x=>m x.1.1)
def Zg:Cx K:=bK [(149,.plain)] [Zd M.CL] []
theorem anb:ba Zg:=bA aY _ (ah ana aF)
theorem anc:aB (Zf (M.CJ)):=bw (cx:=Zg) true anb Tryz.func118 hq ⟨zs0,fun x=>x.1.1⟩ (fun x=>by kernel_rfl)
def ane(y:(Int×Bool)⊕Int){R:Type}(k:KT R):R:=match y with|.inl a0=>kk k Ex.ret ⟨[.any,iq0,.bool],[]⟩ (((),(a0.1,(a0.2,()))),())|.inr a1=>kk k (Ex.exit 0) ⟨[iq0,.any,.any],[]⟩ ((a1,((),((),()))),())
def anf:List (cC K ((Int×Bool)⊕Int)):=[⟨Ex.ret,⟨[.any,iq0,.bool],[]⟩,fun x=>.inl (x.1.2.1,x.1.2.2.1)⟩,⟨(Ex.exit 0),⟨[iq0,.any,.any],[]⟩,fun x=>.inr (x.1.1)⟩]
def Zh:bQ K:=bV D false 39 0 [5,15,16,17] [5,2,3] Yr (fun x=>M.sk x.1.2.1 x.1.2.2.1 ae x.1.1 x.1.2.2.2.1) ane
def Zi(m:(List UInt8)->Option (Int×Bool)):aM K:={f:=99,sh:=zs1,R:=Int×Bool,run:=fun x=>m x.1.1,dflt:=default,out:=fun r=>(Sh.enc D (.bB [iq0,.bool]) (r.1,(r.2,())),aU.encs D [] ())}
def He:Cx K:=bK [(135,.jB),(136,.plain),(60,.plain)] [KO M.strings_Split,KN M.rA,F7 M.F8] [(6,Zh)]
theorem Zj:ba He:=bA aY _ (ah afd (ah afc (ah MU aF)))
theorem ang:bR He (bC (bP Tryz.f99) 0) Zh:=lk (cx:=He) (sh:=Yr) (run:=fun n x=>M.sk x.1.2.1 x.1.2.2.1 n x.1.1 x.1.2.2.2.1) (bU:=anf) Zj (fun m x=>by kernel_rfl) (ah ⟨dR,fun _ _ _=>rfl⟩ (ah ⟨cf,fun _ _ _=>rfl⟩ aF))
theorem anh:aB (Zi (M.CE)):=bw (cx:=He) true Zj Tryz.func99 (hl1 ang) ⟨⟨[.bB [iq0,.bool]],[]⟩,fun x=>(x.1.1.1,x.1.1.2.1)⟩ (fun x=>by kernel_rfl)
def Zk(m:(List UInt8)->Option Bool):aM K:=cB 67 zs1 (fun x=>m x.1.1)
def Zl:Cx K:=bK [(99,.plain)] [Zi M.CE] []
theorem ani:ba Zl:=bA aY _ (ah anh aF)
theorem anj:aB (Zk (M.CC)):=bw (cx:=Zl) true ani Tryz.func67 hq ⟨zs0,fun x=>x.1.1⟩ (fun x=>by kernel_rfl)
def ank(y:Int⊕Unit){R:Type}(k:KT R):R:=match y with|.inl a0=>kk k Ex.ret mz ((a0,()),())|.inr a1=>kk k (Ex.exit 0) zs2 (((),()),())
def anl:List (cC K ((Int)⊕Unit)):=[⟨Ex.ret,mz,fun x=>.inl x.1.1⟩,⟨(Ex.exit 0),zs2,fun x=>.inr (())⟩]
def Zm:bQ K:=bV D false 19 0 [0,1,7,8] [4] Ys (fun x=>M.vL x.1.1 x.1.2.1 x.1.2.2.1 ae x.1.2.2.2.1) ank
def Nu(m:(List (List UInt8))->(List UInt8)->Option Int):aM K:=cI 140 ⟨[.ax U.str,.str],[]⟩ (fun x=>m x.1.1 x.1.2.1)
def Hg:Cx K:=bK [] [] [(2,Zm)]
theorem Zn:ba Hg:=bA aY _ aF
theorem anm:bR Hg (bC (bP Tryz.f140) 0) Zm:=lk (cx:=Hg) (sh:=Ys) (run:=fun n x=>M.vL x.1.1 x.1.2.1 x.1.2.2.1 n x.1.2.2.2.1) (bU:=anl) Zn (fun m x=>by kernel_rfl) (ah ⟨dR,fun _ _ _=>rfl⟩ (ah ⟨cf,fun _ _ _=>rfl⟩ aF))
theorem Zo:aB (Nu (M.vK)):=bw (cx:=Hg) true Zn Tryz.func140 (hl1 anm) ⟨mz,fun x=>x.1.1⟩ (fun x=>by kernel_rfl)
def Zp(m:(List (List UInt8))->(List UInt8)->Option Bool):aM K:=cB 159 ⟨[.ax U.str,.str],[]⟩ (fun x=>m x.1.1 x.1.2.1)
def Zq:Cx K:=bK [(140,.plain)] [Nu M.vK] []
theorem ann:ba Zq:=bA aY _ (ah Zo aF)
theorem ano:aB (Zp (M.EH)):=bw (cx:=Zq) true ann Tryz.func159 hq ⟨zs0,fun x=>x.1.1⟩ (fun x=>by kernel_rfl)
def anp(y:(List UInt8)×Int×Int){R:Type}(k:KT R):R:=match y with|a0=>kk k (Ex.exit 3) su ((a0.1,(a0.2.1,(a0.2.2,()))),())
def anq:List (cC K ((List UInt8)×Int×Int)):=[⟨(Ex.exit 3),su,fun x=>(x.1.1,x.1.2.1,x.1.2.2.1)⟩]
def Zr:bQ K:=bV D false 63 0 [0,1,2] [0,1,2] su (fun x=>M.xU x.1.1 x.1.2.2.1 ae x.1.2.1) anp
def anr(y:(Int×Int)⊕(Int×Int)){R:Type}(k:KT R):R:=match y with|.inl a0=>kk k Ex.ret Yt (((),((),(a0.1,(a0.2,())))),())|.inr a1=>kk k (Ex.exit 0) Yu ((a1.1,(a1.2,((),((),())))),())
def ant:List (cC K ((Int×Int)⊕(Int×Int))):=[⟨Ex.ret,Yt,fun x=>.inl (x.1.2.2.1,x.1.2.2.2.1)⟩,⟨(Ex.exit 0),Yu,fun x=>.inr ((x.1.1,x.1.2.1))⟩]
def Zs:bQ K:=bV D false 63 0 [0,1,2] [1,2,6,7] su (fun x=>M.rB ae x.1.1 x.1.2.1 x.1.2.2.1) anr
def Zt(m:(List UInt8)->Int->Int->Option (Int×Int)):aM K:={f:=79,sh:=su,R:=Int×Int,run:=fun x=>m x.1.1 x.1.2.1 x.1.2.2.1,dflt:=default,out:=fun r=>(Sh.enc D (.bB [iq0,iq0]) (r.1,(r.2,())),aU.encs D [] ())}
def zu:Cx K:=bK [] [] [(9,Zr),(1,Zs)]
theorem Nv:ba zu:=bA aY _ aF
theorem anu:bR zu (bC (bC (bP Tryz.f79) 0) 0) Zr:=lk (cx:=zu) (sh:=su) (run:=fun n x=>M.xU x.1.1 x.1.2.2.1 n x.1.2.1) (bU:=anq) Nv (fun m x=>by kernel_rfl) (ah ⟨cf,fun _ _ _=>rfl⟩ aF)
theorem anv:bR zu (bC (bP Tryz.f79) 0) Zs:=lk (cx:=zu) (sh:=su) (run:=fun n x=>M.rB n x.1.1 x.1.2.1 x.1.2.2.1) (bU:=ant) Nv (fun m x=>by kernel_rfl) (ah ⟨dR,fun _ _ _=>rfl⟩ (ah ⟨cf,fun _ _ _=>rfl⟩ aF)) (hl:=(ja 1 (by kernel_rfl) (jr (.mk (by kernel_rfl) anu))))
theorem anw:aB (Zt (M.vF)):=bw (cx:=zu) true Nv Tryz.func79 (hl1 anv) ⟨⟨[.bB [iq0,iq0]],[]⟩,fun x=>(x.1.1.1,x.1.1.2.1)⟩ (fun x=>by kernel_rfl)
def Nw(m:Int->Option Bool):aM K:=cB 111 zq (fun x=>m x.1.1)
theorem Zu:aB (Nw (M.Nx)):=bw (cx:=iQ) true jh Tryz.func111 hq ⟨zs0,fun x=>x.1.1⟩ (fun x=>by kernel_rfl)
def Hh(m:Int->Option Bool):aM K:=cB 113 zq (fun x=>m x.1.1)
theorem Ny:aB (Hh (M.Hj)):=bw (cx:=iQ) true jh Tryz.func113 hq ⟨zs0,fun x=>x.1.1⟩ (fun x=>by kernel_rfl)
def Zv(y:Int⊕Int){R:Type}(k:KT R):R:=match y with|.inl a0=>kk k Ex.ret Yj (((),(a0,())),())|.inr a1=>kk k (Ex.exit 0) Yk ((a1,((),())),())
def Zw:List (cC K ((Int)⊕Int)):=[⟨Ex.ret,Yj,fun x=>.inl x.1.2.1⟩,⟨(Ex.exit 0),Yk,fun x=>.inr (x.1.1)⟩]
def Zx:bQ K:=bV D false 53 0 [0,1] [1,4] sr (fun x=>M.vH x.1.1 ae x.1.2.1) Zv
def Zy(m:(List UInt8)->Int->Option Int):aM K:=cI 112 sr (fun x=>m x.1.1 x.1.2.1)
def Hk:Cx K:=bK [(111,.plain),(113,.plain)] [Nw M.Nx,Hh M.Hj] [(1,Zx)]
theorem Zz:ba Hk:=bA aY _ (ah Zu (ah Ny aF))
theorem anx:bR Hk (bC (bP Tryz.f112) 0) Zx:=lk (cx:=Hk) (sh:=sr) (run:=fun n x=>M.vH x.1.1 n x.1.2.1) (bU:=Zw) Zz (fun m x=>by kernel_rfl) (ah ⟨dR,fun _ _ _=>rfl⟩ (ah ⟨cf,fun _ _ _=>rfl⟩ aF))
theorem anz:aB (Zy (M.AA)):=bw (cx:=Hk) true Zz Tryz.func112 (hl1 anx) ⟨mz,fun x=>x.1.1⟩ (fun x=>by kernel_rfl)
def ZA:bQ K:=bV D false 39 0 [0,1] [1,4] sr (fun x=>M.vI x.1.1 ae x.1.2.1) Zv
def ZB(m:(List UInt8)->Int->Option Int):aM K:=cI 114 sr (fun x=>m x.1.1 x.1.2.1)
def Hl:Cx K:=bK [(113,.plain)] [Hh M.Hj] [(1,ZA)]
theorem ZC:ba Hl:=bA aY _ (ah Ny aF)
theorem anA:bR Hl (bC (bP Tryz.f114) 0) ZA:=lk (cx:=Hl) (sh:=sr) (run:=fun n x=>M.vI x.1.1 n x.1.2.1) (bU:=Zw) ZC (fun m x=>by kernel_rfl) (ah ⟨dR,fun _ _ _=>rfl⟩ (ah ⟨cf,fun _ _ _=>rfl⟩ aF))
theorem anB:aB (ZB (M.AB)):=bw (cx:=Hl) true ZC Tryz.func114 (hl1 anA) ⟨mz,fun x=>x.1.1⟩ (fun x=>by kernel_rfl)
def ZD:bQ K:=bV D false 16 0 [0,3,4] [2] ⟨[.int .u8,.str,iq0],[]⟩ (fun x=>M.tu x.1.1 x.1.2.1 ae x.1.2.2.1) pw
def ZE(m:Int->Option Bool):aM K:=cB 115 zq (fun x=>m x.1.1)
def Hm:Cx K:=bK [] [] [(3,ZD)]
theorem ZF:ba Hm:=bA aY _ aF
theorem anC:bR Hm (bC (bP Tryz.f115) 0) ZD:=lk (cx:=Hm) (sh:=⟨[.int .u8,.str,iq0],[]⟩) (run:=fun n x=>M.tu x.1.1 x.1.2.1 n x.1.2.2.1) (bU:=px) ZF (fun m x=>by kernel_rfl) (ah ⟨dR,fun _ _ _=>rfl⟩ (ah ⟨cf,fun _ _ _=>rfl⟩ aF))
theorem anD:aB (ZE (M.AE)):=bw (cx:=Hm) true ZF Tryz.func115 (hl1 anC) ⟨zs0,fun x=>x.1.1⟩ (fun x=>by kernel_rfl)
def ZG(m:(List UInt8)->Int->Option (M.af×Int)):aM K:={f:=80,sh:=sr,R:=M.af×Int,run:=fun x=>m x.1.1 x.1.2.1,dflt:=default,out:=fun r=>(Sh.enc D (.bB [.el U.Token,iq0]) (r.1,(r.2,())),aU.encs D [] ())}
def ZH:Cx K:=bK [(111,.plain),(112,.plain),(113,.plain),(114,.plain),(115,.plain)] [Nw M.Nx,Zy M.AA,Hh M.Hj,ZB M.AB,ZE M.AE] []
theorem anE:ba ZH:=bA aY _ (ah Zu (ah anz (ah Ny (ah anB (ah anD aF)))))
theorem anF:aB (ZG (M.AH)):=bw (cx:=ZH) true anE Tryz.func80 hq ⟨⟨[.bB [.el U.Token,iq0]],[]⟩,fun x=>(x.1.1.1,x.1.1.2.1)⟩ (fun x=>by kernel_rfl)
def anG(y:(Int×Int×(List M.af))⊕(Int×(List M.af))){R:Type}(k:KT R):R:=match y with|.inl a0=>kk k Ex.ret Yv (((),((),((),(a0.1,(a0.2.1,()))))),((),((),(a0.2.2,()))))|.inr a1=>kk k (Ex.exit 0) Yw (((),(a1.1,((),((),((),()))))),((),(a1.2,())))
def anH:List (cC K ((Int×Int×(List M.af))⊕(Int×(List M.af)))):=[⟨Ex.ret,Yv,fun x=>.inl (x.1.2.2.2.1,x.1.2.2.2.2.1,x.2.2.2.1)⟩,⟨(Ex.exit 0),Yw,fun x=>.inr ((x.1.2.1,x.2.2.1))⟩]
def ZI:bQ K:=bV D false 54 1 [0,5,6,7] [5,7,2,3,4] Yx (fun x=>M.x6 x.1.1 ae x.1.2.2.1 x.1.2.2.2.1 x.2.2.1) anG
def Vg(m:(List UInt8)->Option ((List M.af)×Int×Int)):aM K:={f:=50,sh:=zs1,R:=(List M.af)×Int×Int,run:=fun x=>m x.1.1,dflt:=default,out:=fun r=>(Sh.enc D (.bB [.ax U.Token,iq0,iq0]) (r.1,(r.2.1,(r.2.2,()))),aU.encs D [] ())}
def Hq:Cx K:=bK [(79,.plain),(80,.plain)] [Zt M.vF,ZG M.AH] [(5,ZI)]
theorem ZJ:ba Hq:=bA aY _ (ah anw (ah anF aF))
theorem anI:bR Hq (bC (bP Tryz.f50) 0) ZI:=lk (cx:=Hq) (sh:=Yx) (run:=fun n x=>M.x6 x.1.1 n x.1.2.2.1 x.1.2.2.2.1 x.2.2.1) (bU:=anH) ZJ (fun m x=>by kernel_rfl) (ah ⟨dR,fun _ _ _=>rfl⟩ (ah ⟨cf,fun _ _ _=>rfl⟩ aF))
theorem ajK:aB (Vg (M.AI)):=bw (cx:=Hq) true ZJ Tryz.func50 (hl1 anI) ⟨Yy,fun x=>(x.1.1.1,x.1.1.2.1,x.1.1.2.2.1)⟩ (fun x=>by kernel_rfl)
def ZK(m:(List UInt8)->(List UInt8)->Option Bool):aM K:=cB 132 ⟨[.str,.str],[]⟩ (fun x=>m x.1.1 x.1.2.1)
theorem anJ:aB (ZK (M.Eu)):=bw (cx:=iQ) true jh Tryz.func132 hq ⟨zs0,fun x=>x.1.1⟩ (fun x=>by kernel_rfl)
def Nz(m:(List UInt8)->(List UInt8)->Option Bool):aM K:=cB 94 ⟨[.str,.str],[]⟩ (fun x=>m x.1.1 x.1.2.1)
def ZL:Cx K:=bK [(132,.plain)] [ZK M.Eu] []
theorem anK:ba ZL:=bA aY _ (ah anJ aF)
theorem ZM:aB (Nz (M.strings_HasPrefix)):=bw (cx:=ZL) true anK Tryz.func94 hq ⟨zs0,fun x=>x.1.1⟩ (fun x=>by kernel_rfl)
def anL(y:(List UInt8)×Int×Int×(List M.af)){R:Type}(k:KT R):R:=match y with|a0=>kk k (Ex.exit 3) zr (((),()),((a0.1,(a0.2.1,(a0.2.2.1,((),())))),((),(a0.2.2.2,()))))
def anM:List (cC K ((List UInt8)×Int×Int×(List M.af))):=[⟨(Ex.exit 3),zr,fun x=>(x.2.1.1,x.2.1.2.1,x.2.1.2.2.1,x.2.2.2.1)⟩]
def ZN:bQ K:=bV D false 89 2 [0] [0] zr (fun x=>M.xW x.2.1.1 x.2.1.2.2.1 x.2.2.2.1 ae x.2.1.2.1) anL
def anN(y:((List UInt8)×Int×Int×(List M.af))⊕((List UInt8)×Int×Int×(List M.af))){R:Type}(k:KT R):R:=match y with|.inl a0=>kk k Ex.ret GV ((),((a0.1,(a0.2.1,(a0.2.2.1,((),())))),((),(a0.2.2.2,()))))|.inr a1=>kk k (Ex.exit 0) GV ((),((a1.1,(a1.2.1,(a1.2.2.1,((),())))),((),(a1.2.2.2,()))))
def anO:List (cC K (((List UInt8)×Int×Int×(List M.af))⊕((List UInt8)×Int×Int×(List M.af)))):=[⟨Ex.ret,GV,fun x=>.inl (x.2.1.1,x.2.1.2.1,x.2.1.2.2.1,x.2.2.2.1)⟩,⟨(Ex.exit 0),GV,fun x=>.inr ((x.2.1.1,x.2.1.2.1,x.2.1.2.2.1,x.2.2.2.1))⟩]
def ZO:bQ K:=bV D false 89 2 [0] [] zr (fun x=>M.rD ae x.2.1.1 x.2.1.2.1 x.2.1.2.2.1 x.2.2.2.1) anN
def ZP(m:(List UInt8)->Int->Int->(List M.af)->Option ((List UInt8)×Int×Int×(List M.af))):aM K:={f:=63,sh:=⟨[.ptr 0 0],[.box [.str,iq0,iq0,.own 1],.arr U.Token]⟩,R:=(List UInt8)×Int×Int×(List M.af),run:=fun x=>m x.2.1.1 x.2.1.2.1 x.2.1.2.2.1 x.2.2.1,dflt:=default,out:=fun r=>(Sh.enc D (.bB []) (),aU.encs D [.box [.str,iq0,iq0,.own 2],.dead,.arr U.Token] ((r.1,(r.2.1,(r.2.2.1,((),())))),((),(r.2.2.2,()))))}
def zw:Cx K:={jN with mode:=iK .plain [(94,.plain)],mv:=true,call:=callOf D [Nz M.strings_HasPrefix],loop:=gW [(8,ZN),(0,ZO)]}
theorem NA:ba zw:=bA aY _ (ah ZM aF)
theorem anP:bR zw (bC (bC (bP Tryz.f63) 0) 0) ZN:=lk (cx:=zw) (sh:=zr) (run:=fun n x=>M.xW x.2.1.1 x.2.1.2.2.1 x.2.2.2.1 n x.2.1.2.1) (bU:=anM) NA (fun m x=>by kernel_rfl) (ah ⟨cf,fun _ _ _=>rfl⟩ aF)
theorem anQ:bR zw (bC (bP Tryz.f63) 0) ZO:=lk (cx:=zw) (sh:=zr) (run:=fun n x=>M.rD n x.2.1.1 x.2.1.2.1 x.2.1.2.2.1 x.2.2.2.1) (bU:=anO) NA (fun m x=>by kernel_rfl) (ah ⟨dR,fun _ _ _=>rfl⟩ (ah ⟨cf,fun _ _ _=>rfl⟩ aF)) (hl:=(ja 1 (by kernel_rfl) (jr (.mk (by kernel_rfl) anP))))
theorem anR:aB (ZP (M.vG)):=bw (cx:=zw) true NA Tryz.func63 (hl1 anQ) ⟨⟨[.bB []],[.box [.str,iq0,iq0,.own 2],.dead,.arr U.Token]⟩,fun x=>(x.2.1.1,x.2.1.2.1,x.2.1.2.2.1,x.2.2.2.1)⟩ (fun x=>by kernel_rfl)
def ZQ(m:M.iM->Int->Option Int):aM K:={f:=133,sh:=⟨[.rp U.mY 0,iq0],[]⟩,R:=Int,run:=fun x=>m x.1.1 x.1.2.1,dflt:=default,out:=fun r=>(Sh.enc D (.int .u8) r,aU.encs D [] ())}
theorem anS:aB (ZQ (M.AD)):=bw (cx:=iQ) true jh Tryz.func133 hq ⟨zq,fun x=>x.1.1⟩ (fun x=>by kernel_rfl)
def anT(y:Int){R:Type}(k:KT R):R:=match y with|a0=>kk k (Ex.exit 0) mz ((a0,()),())
def anU:List (cC K Int):=[⟨(Ex.exit 0),mz,fun x=>x.1.1⟩]
def ZR:bQ K:=bV D false 79 0 [0,1,5] [1] ⟨[.rp U.mY 0,iq0,.bool],[]⟩ (fun x=>M.xY x.1.1 x.1.2.2.1 ae x.1.2.1) anT
def ZS(m:M.iM->Int->Option Int):aM K:=cI 96 ⟨[.rp U.mY 0,iq0],[]⟩ (fun x=>m x.1.1 x.1.2.1)
def Hr:Cx K:=bK [(95,.plain),(133,.plain),(97,.plain)] [Nl M.Nn,ZQ M.AD,Np M.Nq] [(3,ZR)]
theorem ZT:ba Hr:=bA aY _ (ah Y0 (ah anS (ah Y1 aF)))
theorem anV:bR Hr (bC (bP Tryz.f96) 0) ZR:=lk (cx:=Hr) (sh:=⟨[.rp U.mY 0,iq0,.bool],[]⟩) (run:=fun n x=>M.xY x.1.1 x.1.2.2.1 n x.1.2.1) (bU:=anU) ZT (fun m x=>by kernel_rfl) (ah ⟨cf,fun _ _ _=>rfl⟩ aF)
theorem anW:aB (ZS (M.xZ)):=bw (cx:=Hr) true ZT Tryz.func96 (hl1 anV) ⟨mz,fun x=>x.1.1⟩ (fun x=>by kernel_rfl)
def ZU(m:M.iM->Option (Int×Int)):aM K:={f:=64,sh:=⟨[.rp U.mY 0],[]⟩,R:=Int×Int,run:=fun x=>m x.1.1,dflt:=default,out:=fun r=>(Sh.enc D (.bB [iq0,iq0]) (r.1,(r.2,())),aU.encs D [] ())}
def ZV:Cx K:=bK [(95,.plain),(96,.plain),(97,.plain),(94,.plain),(98,.plain)] [Nl M.Nn,ZS M.xZ,Np M.Nq,Nz M.strings_HasPrefix,KH M.strings_IndexByte] []
theorem anX:ba ZV:=bA aY _ (ah Y0 (ah anW (ah Y1 (ah ZM (ah aeR aF)))))
theorem anY:aB (ZU (M.AG)):=bw (cx:=ZV) true anX Tryz.func64 hq ⟨⟨[.bB [iq0,iq0]],[]⟩,fun x=>(x.1.1.1,x.1.1.2.1)⟩ (fun x=>by kernel_rfl)
def anZ(y:(Int×Int)⊕((List UInt8)×Int×Int×(List M.af))){R:Type}(k:KT R):R:=match y with|.inl a0=>kk k Ex.ret Yz (((),((),(a0.1,(a0.2,())))),((),((),((),()))))|.inr a1=>kk k (Ex.exit 0) YA (((),((),((),((),())))),((a1.1,(a1.2.1,(a1.2.2.1,((),())))),((),(a1.2.2.2,()))))
def an0:List (cC K ((Int×Int)⊕((List UInt8)×Int×Int×(List M.af)))):=[⟨Ex.ret,Yz,fun x=>.inl (x.1.2.2.1,x.1.2.2.2.1)⟩,⟨(Ex.exit 0),YA,fun x=>.inr ((x.2.1.1,x.2.1.2.1,x.2.1.2.2.1,x.2.2.2.1))⟩]
def ZW:bQ K:=bV D false 85 2 [0,5] [5,2,3,4] YB (fun x=>M.x7 x.1.1 ae x.2.1.1 x.2.1.2.1 x.2.1.2.2.1 x.2.2.2.1) anZ
def ZX(m:(List UInt8)->Option ((List M.af)×Int×Int)):aM K:={f:=28,sh:=zs1,R:=(List M.af)×Int×Int,run:=fun x=>m x.1.1,dflt:=default,out:=fun r=>(Sh.enc D (.bB [.ax U.Token,iq0,iq0]) (r.1,(r.2.1,(r.2.2,()))),aU.encs D [] ())}
def Ht:Cx K:=bK [(63,.aZ),(64,.plain)] [ZP M.vG,ZU M.AG] [(5,ZW)]
theorem ZY:ba Ht:=bA aY _ (ah anR (ah anY aF))
theorem an1:bR Ht (bC (bP Tryz.f28) 0) ZW:=lk (cx:=Ht) (sh:=YB) (run:=fun n x=>M.x7 x.1.1 n x.2.1.1 x.2.1.2.1 x.2.1.2.2.1 x.2.2.2.1) (bU:=an0) ZY (fun m x=>by kernel_rfl) (ah ⟨dR,fun _ _ _=>rfl⟩ (ah ⟨cf,fun _ _ _=>rfl⟩ aF))
theorem an2:aB (ZX (M.AK)):=bw (cx:=Ht) true ZY Tryz.func28 (hl1 an1) ⟨Yy,fun x=>(x.1.1.1,x.1.1.2.1,x.1.1.2.2.1)⟩ (fun x=>by kernel_rfl)
def wN(m:M.ay->Option (M.af×M.ay)):aM K:={f:=52,sh:=oo,R:=M.af×M.ay,run:=fun x=>m x.2.1,dflt:=default,out:=fun r=>(Sh.enc D (.el U.Token) r.1,aU.encs D [.el U.dm] (r.2,()))}
theorem zd:aB (wN (M.lG)):=bw (cx:=iQ) true jh Tryz.func52 hq ⟨⟨[.el U.Token],[.el U.dm]⟩,fun x=>(x.1.1,x.2.1)⟩ (fun x=>by kernel_rfl)
def ZZ(m:(List UInt8)->Option Bool):aM K:=cB 116 zs1 (fun x=>m x.1.1)
def Z0:Cx K:=bK [(148,.plain)] [Y3 M.CB] []
theorem an3:ba Z0:=bA aY _ (ah amY aF)
theorem an4:aB (ZZ (M.AN)):=bw (cx:=Z0) true an3 Tryz.func116 hq ⟨zs0,fun x=>x.1.1⟩ (fun x=>by kernel_rfl)
def Hu(m:M.ay->Option (M.ay)):aM K:={f:=117,sh:=oo,R:=M.ay,run:=fun x=>m x.2.1,dflt:=default,out:=fun r=>(Sh.enc D (.bB []) (),aU.encs D [.el U.dm] (r,()))}
theorem NB:aB (Hu (M.rE)):=bw (cx:=iQ) true jh Tryz.func117 hq ⟨Nh,fun x=>x.2.1⟩ (fun x=>by kernel_rfl)
def qE(m:M.ay->Option ((List UInt8)×M.ay)):aM K:={f:=82,sh:=oo,R:=(List UInt8)×M.ay,run:=fun x=>m x.2.1,dflt:=default,out:=fun r=>(Sh.enc D (.str) r.1,aU.encs D [.el U.dm] (r.2,()))}
def Z1:Cx K:=bK [(52,.aZ),(116,.plain),(117,.aZ)] [wN M.lG,ZZ M.AN,Hu M.rE] []
theorem an5:ba Z1:=bA aY _ (ah zd (ah an4 (ah NB aF)))
theorem sn:aB (qE (M.gh)):=bw (cx:=Z1) true an5 Tryz.func82 hq ⟨Ni,fun x=>(x.1.1,x.2.1)⟩ (fun x=>by kernel_rfl)
def MQ(m:Option ((List (List UInt8)))):aM K:={f:=122,sh:=⟨[],[]⟩,R:=(List (List UInt8)),run:=fun x=>m,dflt:=default,out:=fun r=>(Sh.enc D (.own 0) (),aU.encs D [.arr U.str] (r,()))}
def Z2:Cx K:={jN with mode:=iK .plain [],xb:=[[some U.str]],call:=callOf D [],loop:=gW []}
theorem an6:ba Z2:=bA aY _ aF
theorem Vw:aB (MQ (M.jY)):=bw (cx:=Z2) false an6 Tryz.func122 hq ⟨⟨[.own 0],[.arr U.str]⟩,fun x=>x.2.1⟩ (fun x=>by kernel_rfl)
def MR(m:Option ((List (List UInt8)))):aM K:={f:=123,sh:=⟨[],[]⟩,R:=(List (List UInt8)),run:=fun x=>m,dflt:=default,out:=fun r=>(Sh.enc D (.ax U.str) r,aU.encs D [] ())}
theorem Vx:aB (MR (M.jZ)):=bw (cx:=iQ) true jh Tryz.func123 hq ⟨CO,fun x=>x.1.1⟩ (fun x=>by kernel_rfl)
def an7(y:Int⊕Unit){R:Type}(k:KT R):R:=match y with|.inl a0=>kk k Ex.ret ⟨[iq0],[.dead]⟩ ((a0,()),((),()))|.inr a1=>kk k (Ex.exit 0) Gu (((),()),((),()))
def an8:List (cC K ((Int)⊕Unit)):=[⟨Ex.ret,⟨[iq0],[.dead]⟩,fun x=>.inl x.1.1⟩,⟨(Ex.exit 0),Gu,fun x=>.inr (())⟩]
def Z3:bQ K:=bV D false 22 1 [0,3,4] [2] YC (fun x=>M.tA x.1.1 x.2.2.1 ae x.1.2.2.1) an7
def NC(m:(List UInt8)->Option Int):aM K:=cI 174 zs1 (fun x=>m x.1.1)
def Hw:Cx K:=bK [(122,.fresh),(123,.jB)] [MQ M.jY,MR M.jZ] [(3,Z3)]
theorem Z4:ba Hw:=bA aY _ (ah Vw (ah Vx aF))
theorem an9:bR Hw (bC (bP Tryz.f174) 0) Z3:=lk (cx:=Hw) (sh:=YC) (run:=fun n x=>M.tA x.1.1 x.2.2.1 n x.1.2.2.1) (bU:=an8) Z4 (fun m x=>by kernel_rfl) (ah ⟨dR,fun _ _ _=>rfl⟩ (ah ⟨cf,fun _ _ _=>rfl⟩ aF))
theorem Z5:aB (NC (M.tz)):=bw (cx:=Hw) true Z4 Tryz.func174 (hl1 an9) ⟨mz,fun x=>x.1.1⟩ (fun x=>by kernel_rfl)
def Z6(m:(List UInt8)->M.ay->Option (Bool×M.ay)):aM K:={f:=119,sh:=GX,R:=Bool×M.ay,run:=fun x=>m x.1.2.1 x.2.1,dflt:=default,out:=fun r=>(Sh.enc D (.bool) r.1,aU.encs D [.el U.dm] (r.2,()))}
def Z7:Cx K:=bK [(52,.aZ)] [wN M.lG] []
theorem aoa:ba Z7:=bA aY _ (ah zd aF)
theorem aob:aB (Z6 (M.AM)):=bw (cx:=Z7) true aoa Tryz.func119 hq ⟨⟨[.bool],[.el U.dm]⟩,fun x=>(x.1.1,x.2.1)⟩ (fun x=>by kernel_rfl)
def mZ(m:(List UInt8)->M.ay->Option (Bool×M.ay)):aM K:={f:=84,sh:=GX,R:=Bool×M.ay,run:=fun x=>m x.1.2.1 x.2.1,dflt:=default,out:=fun r=>(Sh.enc D (.bool) r.1,aU.encs D [.el U.dm] (r.2,()))}
def Z8:Cx K:=bK [(119,.aZ),(117,.aZ)] [Z6 M.AM,Hu M.rE] []
theorem aoc:ba Z8:=bA aY _ (ah aob (ah NB aF))
theorem ot:aB (mZ (M.dJ)):=bw (cx:=Z8) true aoc Tryz.func84 hq ⟨⟨[.bool],[.el U.dm]⟩,fun x=>(x.1.1,x.2.1)⟩ (fun x=>by kernel_rfl)
def oq(m:(List UInt8)->M.ay->Option (M.ay)):aM K:={f:=81,sh:=GX,R:=M.ay,run:=fun x=>m x.1.2.1 x.2.1,dflt:=default,out:=fun r=>(Sh.enc D (.bB []) (),aU.encs D [.el U.dm] (r,()))}
def Z9:Cx K:=bK [(84,.aZ)] [mZ M.dJ] []
theorem aod:ba Z9:=bA aY _ (ah ot aF)
theorem pv:aB (oq (M.dE)):=bw (cx:=Z9) true aod Tryz.func81 hq ⟨Nh,fun x=>x.2.1⟩ (fun x=>by kernel_rfl)
def aab(m:Int->M.au->Option ((List UInt8)×M.au)):aM K:={f:=65,sh:=⟨[.ptr 0 0,iq0,.fn 66 []],[.el U.parser]⟩,R:=(List UInt8)×M.au,run:=fun x=>m x.1.2.1 x.2.1,dflt:=default,out:=fun r=>(Sh.enc D (.str) r.1,aU.encs D [.el U.parser] (r.2,()))}
def aac:Cx K:=bK [(66,.plain)] [Nr M.wu] []
theorem aoe:ba aac:=bA aY _ (ah Y7 aF)
theorem aof:aB (aab (M.AO)):=bw (cx:=aac) true aoe Tryz.func65 hq ⟨zt,fun x=>(x.1.1,x.2.1)⟩ (fun x=>by kernel_rfl)
def sw(m:M.au->Option ((List UInt8)×M.au)):aM K:={f:=30,sh:=uO,R:=(List UInt8)×M.au,run:=fun x=>m x.2.1,dflt:=default,out:=fun r=>(Sh.enc D (.str) r.1,aU.encs D [.el U.parser] (r.2,()))}
def aad:Cx K:=bK [(65,.aZ)] [aab M.AO] []
theorem aog:ba aad:=bA aY _ (ah aof aF)
theorem uP:aB (sw (M.gZ)):=bw (cx:=aad) true aog Tryz.func30 hq ⟨zt,fun x=>(x.1.1,x.2.1)⟩ (fun x=>by kernel_rfl)
def F9(m:Option ((List (List UInt8)))):aM K:={f:=128,sh:=⟨[],[]⟩,R:=(List (List UInt8)),run:=fun x=>m,dflt:=default,out:=fun r=>(Sh.enc D (.ax U.str) r,aU.encs D [] ())}
theorem MV:aB (F9 (M.f6)):=bw (cx:=iQ) true jh Tryz.func128 hq ⟨CO,fun x=>x.1.1⟩ (fun x=>by kernel_rfl)
def ND(m:(List UInt8)->Option Bool):aM K:=cB 139 zs1 (fun x=>m x.1.1)
def aae:Cx K:=bK [(128,.jB),(159,.plain)] [F9 M.f6,Zp M.EH] []
theorem aoh:ba aae:=bA aY _ (ah MV (ah ano aF))
theorem aaf:aB (ND (M.rF)):=bw (cx:=aae) true aoh Tryz.func139 hq ⟨zs0,fun x=>x.1.1⟩ (fun x=>by kernel_rfl)
def zx(m:(List UInt8)->M.au->Option (Bool×M.au)):aM K:={f:=68,sh:=GY,R:=Bool×M.au,run:=fun x=>m x.1.2.1 x.2.1,dflt:=default,out:=fun r=>(Sh.enc D (.bool) r.1,aU.encs D [.el U.parser] (r.2,()))}
theorem CZ:aB (zx (M.mQ)):=bw (cx:=iQ) true jh Tryz.func68 hq ⟨⟨[.bool],[.el U.parser]⟩,fun x=>(x.1.1,x.2.1)⟩ (fun x=>by kernel_rfl)
def m6(m:(List UInt8)->M.au->Option (Bool×M.au)):aM K:={f:=32,sh:=GY,R:=Bool×M.au,run:=fun x=>m x.1.2.1 x.2.1,dflt:=default,out:=fun r=>(Sh.enc D (.bool) r.1,aU.encs D [.el U.parser] (r.2,()))}
def aag:Cx K:=bK [(68,.aZ)] [zx M.mQ] []
theorem aoi:ba aag:=bA aY _ (ah CZ aF)
theorem ow:aB (m6 (M.eG)):=bw (cx:=aag) true aoi Tryz.func32 hq ⟨⟨[.bool],[.el U.parser]⟩,fun x=>(x.1.1,x.2.1)⟩ (fun x=>by kernel_rfl)
def qL(m:(List UInt8)->M.au->Option (M.au)):aM K:={f:=29,sh:=GY,R:=M.au,run:=fun x=>m x.1.2.1 x.2.1,dflt:=default,out:=fun r=>(Sh.enc D (.bB []) (),aU.encs D [.el U.parser] (r,()))}
def aah:Cx K:=bK [(32,.aZ)] [m6 M.eG] []
theorem aoj:ba aah:=bA aY _ (ah ow aF)
theorem sx:aB (qL (M.di)):=bw (cx:=aah) true aoj Tryz.func29 hq ⟨⟨[.bB []],[.el U.parser]⟩,fun x=>x.2.1⟩ (fun x=>by kernel_rfl)
def ir(m:Int->M.au->Option (M.aa×M.au)):aM K:={f:=102,sh:=⟨[.ptr 0 0,iq0],[.el U.parser]⟩,R:=M.aa×M.au,run:=fun x=>m x.1.2.1 x.2.1,dflt:=default,out:=fun r=>(Sh.enc D (.el U.Term) r.1,aU.encs D [.el U.parser] (r.2,()))}
def C0(m:Int->(List UInt8)->Int->(List (List UInt8))->(List M.aa)->(List M.af)->Int->Bool->Option (Int×(List UInt8)×Int×(List M.af)×Int×Bool×(List (List UInt8))×(List M.aa))):aM K:={f:=141,sh:=⟨[.ptr 0 0,.ptr 1 0,.ptr 2 0],[.box [iq0,.str,.own 3,.own 4],.box [.ptr 5 0],.box [iq0],.arr U.str,.arr U.Term,.box [.ax U.Token,iq0,.bool]]⟩,R:=Int×(List UInt8)×Int×(List M.af)×Int×Bool×(List (List UInt8))×(List M.aa),run:=fun x=>m x.2.1.1 x.2.1.2.1 x.2.2.2.1.1 x.2.2.2.2.1 x.2.2.2.2.2.1 x.2.2.2.2.2.2.1.1 x.2.2.2.2.2.2.1.2.1 x.2.2.2.2.2.2.1.2.2.1,dflt:=default,out:=fun r=>(Sh.enc D (.bB []) (),aU.encs D [.box [iq0,.str,.own 6,.own 7],.box [.ptr 5 0],.box [iq0],.dead,.dead,.box [.ax U.Token,iq0,.bool],.arr U.str,.arr U.Term] ((r.1,(r.2.1,((),((),())))),(((),()),((r.2.2.1,()),((),((),((r.2.2.2.1,(r.2.2.2.2.1,(r.2.2.2.2.2.1,()))),(r.2.2.2.2.2.2.1,(r.2.2.2.2.2.2.2,())))))))))}
def aai(bg:Int->M.au->Option (M.aa×M.au)):Cx K:={jN with mode:=iK .plain [(102,.aZ)],mv:=true,call:=callOf D [ir bg],loop:=gW []}
theorem aok(bg:Int->M.au->Option (M.aa×M.au))(ej:aB (ir bg)):ba (aai bg):=bA aY _ (ah ej aF)
theorem Hy(bg:Int->M.au->Option (M.aa×M.au))(ej:aB (ir bg)):aB (C0 (M.ma bg)):=ij (cx:=aai bg) (fz:=true) aY (aok bg ej) fg ⟨Tryz.func141,by kernel_rfl⟩ hq ⟨⟨[.bB []],[.box [iq0,.str,.own 6,.own 7],.box [.ptr 5 0],.box [iq0],.dead,.dead,.box [.ax U.Token,iq0,.bool],.arr U.str,.arr U.Term]⟩,fun x=>(x.2.1.1,x.2.1.2.1,x.2.2.2.1.1,x.2.2.2.2.2.2.1.1,x.2.2.2.2.2.2.1.2.1,x.2.2.2.2.2.2.1.2.2.1,x.2.2.2.2.2.2.2.1,x.2.2.2.2.2.2.2.2.1)⟩ (fun x=>rfl) (fun x=>by kernel_rfl)
def aol(y:((List M.af)×Int×Bool×Int×(List UInt8)×Int×(List (List UInt8))×(List M.aa))⊕((List M.af)×Int×Bool×Int×(List UInt8)×Int×(List (List UInt8))×(List M.aa))){R:Type}(k:KT R):R:=match y with|.inl a0=>kk k Ex.ret GZ ((),((a0.1,(a0.2.1,(a0.2.2.1,()))),((a0.2.2.2.1,(a0.2.2.2.2.1,((),((),())))),(((),()),((a0.2.2.2.2.2.1,()),((),((),(a0.2.2.2.2.2.2.1,(a0.2.2.2.2.2.2.2,())))))))))|.inr a1=>kk k (Ex.exit 0) GZ ((),((a1.1,(a1.2.1,(a1.2.2.1,()))),((a1.2.2.2.1,(a1.2.2.2.2.1,((),((),())))),(((),()),((a1.2.2.2.2.2.1,()),((),((),(a1.2.2.2.2.2.2.1,(a1.2.2.2.2.2.2.2,())))))))))
def aom:List (cC K (((List M.af)×Int×Bool×Int×(List UInt8)×Int×(List (List UInt8))×(List M.aa))⊕((List M.af)×Int×Bool×Int×(List UInt8)×Int×(List (List UInt8))×(List M.aa)))):=[⟨Ex.ret,GZ,fun x=>.inl (x.2.1.1,x.2.1.2.1,x.2.1.2.2.1,x.2.2.1.1,x.2.2.1.2.1,x.2.2.2.2.1.1,x.2.2.2.2.2.2.2.1,x.2.2.2.2.2.2.2.2.1)⟩,⟨(Ex.exit 0),GZ,fun x=>.inr ((x.2.1.1,x.2.1.2.1,x.2.1.2.2.1,x.2.2.1.1,x.2.2.1.2.1,x.2.2.2.2.1.1,x.2.2.2.2.2.2.2.1,x.2.2.2.2.2.2.2.2.1))⟩]
def aaj(bg:Int->M.au->Option (M.aa×M.au)):bQ K:=bV D false 30 6 [0,1,2,6] [] YD (fun x=>M.rH bg x.1.2.1 ae x.1.2.2.2.1 x.2.1 x.2.2.1.1 x.2.2.1.2.1 x.2.2.2.2.1.1 x.2.2.2.2.2.2.2.1 x.2.2.2.2.2.2.2.2.1) aol
def aak(m:Int->M.au->Int->(List UInt8)->Int->(List (List UInt8))->(List M.aa)->Option (M.au×Int×(List UInt8)×Int×(List (List UInt8))×(List M.aa))):aM K:={f:=103,sh:=⟨[.ptr 0 0,iq0,.fn 141 [.ptr 1 0,.ptr 2 0,.ptr 3 0]],[.el U.parser,.box [iq0,.str,.own 4,.own 5],.box [.ptr 0 0],.box [iq0],.arr U.str,.arr U.Term]⟩,R:=M.au×Int×(List UInt8)×Int×(List (List UInt8))×(List M.aa),run:=fun x=>m x.1.2.1 x.2.1 x.2.2.1.1 x.2.2.1.2.1 x.2.2.2.2.1.1 x.2.2.2.2.2.1 x.2.2.2.2.2.2.1,dflt:=default,out:=fun r=>(Sh.enc D (.bB []) (),aU.encs D [.el U.parser,.box [iq0,.str,.own 6,.own 7],.box [.ptr 0 0],.box [iq0],.dead,.dead,.arr U.str,.arr U.Term] (r.1,((r.2.1,(r.2.2.1,((),((),())))),(((),()),((r.2.2.2.1,()),((),((),(r.2.2.2.2.1,(r.2.2.2.2.2,())))))))))}
def Hz(bg:Int->M.au->Option (M.aa×M.au)):Cx K:={jN with mode:=iK .plain [(32,.aZ),(141,.aZ)],mv:=true,call:=callOf D [C0 (M.ma bg),m6 M.eG],loop:=gW [(1,aaj bg)]}
theorem aal(bg:Int->M.au->Option (M.aa×M.au))(ej:aB (ir bg)):ba (Hz bg):=bA aY _ (ah (Hy bg ej) (ah ow aF))
theorem aon(bg:Int->M.au->Option (M.aa×M.au))(ej:aB (ir bg)):bR (Hz bg) (bC (bP Tryz.f103) 0) (aaj bg):=lk (cx:=Hz bg) (sh:=YD) (run:=fun n x=>M.rH bg x.1.2.1 n x.1.2.2.2.1 x.2.1 x.2.2.1.1 x.2.2.1.2.1 x.2.2.2.2.1.1 x.2.2.2.2.2.2.2.1 x.2.2.2.2.2.2.2.2.1) (bU:=aom) (aal bg ej) (fun m x=>by kernel_rfl) (ah ⟨dR,fun _ _ _=>rfl⟩ (ah ⟨cf,fun _ _ _=>rfl⟩ aF))
theorem aoo(bg:Int->M.au->Option (M.aa×M.au))(ej:aB (ir bg)):aB (aak (M.ya bg)):=ij (cx:=Hz bg) (fz:=true) aY (aal bg ej) fg ⟨Tryz.func103,by kernel_rfl⟩ (hl1 (aon bg ej)) ⟨Nj,fun x=>(x.2.1,x.2.2.1.1,x.2.2.1.2.1,x.2.2.2.2.1.1,x.2.2.2.2.2.2.2.1,x.2.2.2.2.2.2.2.2.1)⟩ (fun x=>rfl) (fun x=>by kernel_rfl)
def aam(m:(List UInt8)->Option Bool):aM K:=cB 138 zs1 (fun x=>m x.1.1)
def aan:Cx K:=bK [(66,.plain),(139,.plain)] [Nr M.wu,ND M.rF] []
theorem aop:ba aan:=bA aY _ (ah Y7 (ah aaf aF))
theorem aoq:aB (aam (M.AT)):=bw (cx:=aan) true aop Tryz.func138 hq ⟨zs0,fun x=>x.1.1⟩ (fun x=>by kernel_rfl)
def aao(m:Int->M.au->Option ((List UInt8)×M.au)):aM K:={f:=65,sh:=⟨[.ptr 0 0,iq0,.fn 138 []],[.el U.parser]⟩,R:=(List UInt8)×M.au,run:=fun x=>m x.1.2.1 x.2.1,dflt:=default,out:=fun r=>(Sh.enc D (.str) r.1,aU.encs D [.el U.parser] (r.2,()))}
def aap:Cx K:=bK [(138,.plain)] [aam M.AT] []
theorem aor:ba aap:=bA aY _ (ah aoq aF)
theorem aos:aB (aao (M.AU)):=bw (cx:=aap) true aor Tryz.func65 hq ⟨zt,fun x=>(x.1.1,x.2.1)⟩ (fun x=>by kernel_rfl)
def HA(m:M.au->Option ((List UInt8)×M.au)):aM K:={f:=101,sh:=uO,R:=(List UInt8)×M.au,run:=fun x=>m x.2.1,dflt:=default,out:=fun r=>(Sh.enc D (.str) r.1,aU.encs D [.el U.parser] (r.2,()))}
def aaq:Cx K:=bK [(65,.aZ)] [aao M.AU] []
theorem aot:ba aaq:=bA aY _ (ah aos aF)
theorem NF:aB (HA (M.nB)):=bw (cx:=aaq) true aot Tryz.func101 hq ⟨zt,fun x=>(x.1.1,x.2.1)⟩ (fun x=>by kernel_rfl)
def aou(y:Int×(List UInt8)×(List (List UInt8))×(List M.aa)){R:Type}(k:KT R):R:=match y with|a0=>kk k (Ex.exit 0) YE ((),((a0.1,(a0.2.1,((),((),())))),((),((),(a0.2.2.1,(a0.2.2.2,()))))))
def aov:List (cC K (Int×(List UInt8)×(List (List UInt8))×(List M.aa))):=[⟨(Ex.exit 0),YE,fun x=>(x.2.1.1,x.2.1.2.1,x.2.2.2.2.1,x.2.2.2.2.2.1)⟩]
def aar:bQ K:=bV D false 46 3 [1] [] YF (fun x=>M.mc x.2.1.1 x.2.1.2.1 x.2.2.2.2.1 ae x.2.2.2.2.2.1) aou
def aas(m:M.au->Int->(List UInt8)->Int->(List (List UInt8))->(List M.aa)->Option (M.au×Int×(List UInt8)×Int×(List (List UInt8))×(List M.aa))):aM K:={f:=142,sh:=YG,R:=M.au×Int×(List UInt8)×Int×(List (List UInt8))×(List M.aa),run:=fun x=>m x.2.1 x.2.2.1.1 x.2.2.1.2.1 x.2.2.2.2.1.1 x.2.2.2.2.2.1 x.2.2.2.2.2.2.1,dflt:=default,out:=fun r=>(Sh.enc D (.bB []) (),aU.encs D [.el U.parser,.box [iq0,.str,.own 6,.own 7],.box [.ptr 0 0],.box [iq0],.dead,.dead,.arr U.str,.arr U.Term] (r.1,((r.2.1,(r.2.2.1,((),((),())))),(((),()),((r.2.2.2.1,()),((),((),(r.2.2.2.2.1,(r.2.2.2.2.2,())))))))))}
def HD(bg:Int->M.au->Option (M.aa×M.au)):Cx K:={jN with mode:=iK .plain [(32,.aZ),(29,.aZ),(141,.aZ)],mv:=true,call:=callOf D [m6 M.eG,C0 (M.ma bg),qL M.di],loop:=gW [(7,aar)]}
theorem aat(bg:Int->M.au->Option (M.aa×M.au))(ej:aB (ir bg)):ba (HD bg):=bA aY _ (ah ow (ah (Hy bg ej) (ah sx aF)))
theorem aow(bg:Int->M.au->Option (M.aa×M.au))(ej:aB (ir bg)):bR (HD bg) (bC (bP Tryz.f142) 0) aar:=lk (cx:=HD bg) (sh:=YF) (run:=fun n x=>M.mc x.2.1.1 x.2.1.2.1 x.2.2.2.2.1 n x.2.2.2.2.2.1) (bU:=aov) (aat bg ej) (fun m x=>by kernel_rfl) (ah ⟨cf,fun _ _ _=>rfl⟩ aF)
theorem aox(bg:Int->M.au->Option (M.aa×M.au))(ej:aB (ir bg)):aB (aas (M.AY bg)):=ij (cx:=HD bg) (fz:=true) aY (aat bg ej) fg ⟨Tryz.func142,by kernel_rfl⟩ (hl1 (aow bg ej)) ⟨Nj,fun x=>(x.2.1,x.2.2.1.1,x.2.2.1.2.1,x.2.2.2.2.1.1,x.2.2.2.2.2.2.2.1,x.2.2.2.2.2.2.2.2.1)⟩ (fun x=>rfl) (fun x=>by kernel_rfl)
def aau(m:M.au->Int->(List UInt8)->Int->(List (List UInt8))->(List M.aa)->Option (M.au×Int×(List UInt8)×Int×(List (List UInt8))×(List M.aa))):aM K:={f:=144,sh:=YG,R:=M.au×Int×(List UInt8)×Int×(List (List UInt8))×(List M.aa),run:=fun x=>m x.2.1 x.2.2.1.1 x.2.2.1.2.1 x.2.2.2.2.1.1 x.2.2.2.2.2.1 x.2.2.2.2.2.2.1,dflt:=default,out:=fun r=>(Sh.enc D (.bB []) (),aU.encs D [.el U.parser,.box [iq0,.str,.own 6,.own 7],.box [.ptr 0 0],.box [iq0],.dead,.dead,.arr U.str,.arr U.Term] (r.1,((r.2.1,(r.2.2.1,((),((),())))),(((),()),((r.2.2.2.1,()),((),((),(r.2.2.2.2.1,(r.2.2.2.2.2,())))))))))}
def aav(bg:Int->M.au->Option (M.aa×M.au)):Cx K:={jN with mode:=iK .plain [(30,.aZ),(29,.aZ),(32,.aZ),(141,.aZ)],mv:=true,call:=callOf D [sw M.gZ,qL M.di,C0 (M.ma bg),m6 M.eG],loop:=gW []}
theorem aoy(bg:Int->M.au->Option (M.aa×M.au))(ej:aB (ir bg)):ba (aav bg):=bA aY _ (ah uP (ah sx (ah (Hy bg ej) (ah ow aF))))
theorem aoz(bg:Int->M.au->Option (M.aa×M.au))(ej:aB (ir bg)):aB (aau (M.yb bg)):=ij (cx:=aav bg) (fz:=true) aY (aoy bg ej) fg ⟨Tryz.func144,by kernel_rfl⟩ hq ⟨Nj,fun x=>(x.2.1,x.2.2.1.1,x.2.2.1.2.1,x.2.2.2.2.1.1,x.2.2.2.2.2.2.2.1,x.2.2.2.2.2.2.2.2.1)⟩ (fun x=>rfl) (fun x=>by kernel_rfl)
def aaw(m:Int->(List UInt8)->(List M.af)->Int->Bool->(List (List UInt8))->(List M.aa)->Int->Option (Int×(List UInt8)×(List M.af)×Int×Bool×Int×(List (List UInt8))×(List M.aa))):aM K:={f:=143,sh:=⟨[.ptr 0 0,.ptr 1 0,.ptr 2 0],[.box [.ptr 3 0],.box [iq0,.str,.own 4,.own 5],.box [.fn 141 [.ptr 1 0,.ptr 0 0,.ptr 6 0]],.box [.ax U.Token,iq0,.bool],.arr U.str,.arr U.Term,.box [iq0]]⟩,R:=Int×(List UInt8)×(List M.af)×Int×Bool×Int×(List (List UInt8))×(List M.aa),run:=fun x=>m x.2.2.1.1 x.2.2.1.2.1 x.2.2.2.2.1.1 x.2.2.2.2.1.2.1 x.2.2.2.2.1.2.2.1 x.2.2.2.2.2.1 x.2.2.2.2.2.2.1 x.2.2.2.2.2.2.2.1.1,dflt:=default,out:=fun r=>(Sh.enc D (.bB []) (),aU.encs D [.box [.ptr 3 0],.box [iq0,.str,.own 7,.own 8],.box [.fn 141 [.ptr 1 0,.ptr 0 0,.ptr 6 0]],.box [.ax U.Token,iq0,.bool],.dead,.dead,.box [iq0],.arr U.str,.arr U.Term] (((),()),((r.1,(r.2.1,((),((),())))),((((),((),((),()))),()),((r.2.2.1,(r.2.2.2.1,(r.2.2.2.2.1,()))),((),((),((r.2.2.2.2.2.1,()),(r.2.2.2.2.2.2.1,(r.2.2.2.2.2.2.2,()))))))))))}
def aax(bg:Int->M.au->Option (M.aa×M.au)):Cx K:={jN with mode:=iK .plain [(144,.aZ)],mv:=true,call:=callOf D [aau (M.yb bg)],loop:=gW []}
theorem aoA(bg:Int->M.au->Option (M.aa×M.au))(ej:aB (ir bg)):ba (aax bg):=bA aY _ (ah (aoz bg ej) aF)
theorem aoB(bg:Int->M.au->Option (M.aa×M.au))(ej:aB (ir bg)):aB (aaw (M.EJ bg)):=ij (cx:=aax bg) (fz:=true) aY (aoA bg ej) fg ⟨Tryz.func143,by kernel_rfl⟩ hq ⟨⟨[.bB []],[.box [.ptr 3 0],.box [iq0,.str,.own 7,.own 8],.box [.fn 141 [.ptr 1 0,.ptr 0 0,.ptr 6 0]],.box [.ax U.Token,iq0,.bool],.dead,.dead,.box [iq0],.arr U.str,.arr U.Term]⟩,fun x=>(x.2.2.1.1,x.2.2.1.2.1,x.2.2.2.2.1.1,x.2.2.2.2.1.2.1,x.2.2.2.2.1.2.2.1,x.2.2.2.2.2.2.2.1.1,x.2.2.2.2.2.2.2.2.1,x.2.2.2.2.2.2.2.2.2.1)⟩ (fun x=>rfl) (fun x=>by kernel_rfl)
def aoC(y:((List M.af)×Int×Bool×Int×(List UInt8)×Int×(List (List UInt8))×(List M.aa))⊕((List M.af)×Int×Bool×Int×(List UInt8)×Int×(List (List UInt8))×(List M.aa))){R:Type}(k:KT R):R:=match y with|.inl a0=>kk k Ex.ret G0 ((),((a0.1,(a0.2.1,(a0.2.2.1,()))),(((),()),((a0.2.2.2.1,(a0.2.2.2.2.1,((),((),())))),((((),((),((),()))),()),((),((),((a0.2.2.2.2.2.1,()),(a0.2.2.2.2.2.2.1,(a0.2.2.2.2.2.2.2,()))))))))))|.inr a1=>kk k (Ex.exit 0) G0 ((),((a1.1,(a1.2.1,(a1.2.2.1,()))),(((),()),((a1.2.2.2.1,(a1.2.2.2.2.1,((),((),())))),((((),((),((),()))),()),((),((),((a1.2.2.2.2.2.1,()),(a1.2.2.2.2.2.2.1,(a1.2.2.2.2.2.2.2,()))))))))))
def aoD:List (cC K (((List M.af)×Int×Bool×Int×(List UInt8)×Int×(List (List UInt8))×(List M.aa))⊕((List M.af)×Int×Bool×Int×(List UInt8)×Int×(List (List UInt8))×(List M.aa)))):=[⟨Ex.ret,G0,fun x=>.inl (x.2.1.1,x.2.1.2.1,x.2.1.2.2.1,x.2.2.2.1.1,x.2.2.2.1.2.1,x.2.2.2.2.2.2.2.1.1,x.2.2.2.2.2.2.2.2.1,x.2.2.2.2.2.2.2.2.2.1)⟩,⟨(Ex.exit 0),G0,fun x=>.inr ((x.2.1.1,x.2.1.2.1,x.2.1.2.2.1,x.2.2.2.1.1,x.2.2.2.1.2.1,x.2.2.2.2.2.2.2.1.1,x.2.2.2.2.2.2.2.2.1,x.2.2.2.2.2.2.2.2.2.1))⟩]
def aay(bg:Int->M.au->Option (M.aa×M.au)):bQ K:=bV D false 30 7 [0,1,2,6] [] YH (fun x=>M.rI bg x.1.2.1 ae x.1.2.2.2.1 x.2.1 x.2.2.2.1.1 x.2.2.2.1.2.1 x.2.2.2.2.2.2.2.1.1 x.2.2.2.2.2.2.2.2.1 x.2.2.2.2.2.2.2.2.2.1) aoC
def aaz(m:Int->M.au->Int->(List UInt8)->(List (List UInt8))->(List M.aa)->Int->Option (M.au×Int×(List UInt8)×Int×(List (List UInt8))×(List M.aa))):aM K:={f:=103,sh:=⟨[.ptr 0 0,iq0,.fn 143 [.ptr 1 0,.ptr 2 0,.ptr 3 0]],[.el U.parser,.box [.ptr 0 0],.box [iq0,.str,.own 4,.own 5],.box [.fn 141 [.ptr 2 0,.ptr 1 0,.ptr 6 0]],.arr U.str,.arr U.Term,.box [iq0]]⟩,R:=M.au×Int×(List UInt8)×Int×(List (List UInt8))×(List M.aa),run:=fun x=>m x.1.2.1 x.2.1 x.2.2.2.1.1 x.2.2.2.1.2.1 x.2.2.2.2.2.1 x.2.2.2.2.2.2.1 x.2.2.2.2.2.2.2.1.1,dflt:=default,out:=fun r=>(Sh.enc D (.bB []) (),aU.encs D [.el U.parser,.box [.ptr 0 0],.box [iq0,.str,.own 7,.own 8],.box [.fn 141 [.ptr 2 0,.ptr 1 0,.ptr 6 0]],.dead,.dead,.box [iq0],.arr U.str,.arr U.Term] (r.1,(((),()),((r.2.1,(r.2.2.1,((),((),())))),((((),((),((),()))),()),((),((),((r.2.2.2.1,()),(r.2.2.2.2.1,(r.2.2.2.2.2,()))))))))))}
def HE(bg:Int->M.au->Option (M.aa×M.au)):Cx K:={jN with mode:=iK .plain [(32,.aZ),(143,.aZ)],mv:=true,call:=callOf D [aaw (M.EJ bg),m6 M.eG],loop:=gW [(1,aay bg)]}
theorem aaA(bg:Int->M.au->Option (M.aa×M.au))(ej:aB (ir bg)):ba (HE bg):=bA aY _ (ah (aoB bg ej) (ah ow aF))
theorem aoE(bg:Int->M.au->Option (M.aa×M.au))(ej:aB (ir bg)):bR (HE bg) (bC (bP Tryz.f103) 0) (aay bg):=lk (cx:=HE bg) (sh:=YH) (run:=fun n x=>M.rI bg x.1.2.1 n x.1.2.2.2.1 x.2.1 x.2.2.2.1.1 x.2.2.2.1.2.1 x.2.2.2.2.2.2.2.1.1 x.2.2.2.2.2.2.2.2.1 x.2.2.2.2.2.2.2.2.2.1) (bU:=aoD) (aaA bg ej) (fun m x=>by kernel_rfl) (ah ⟨dR,fun _ _ _=>rfl⟩ (ah ⟨cf,fun _ _ _=>rfl⟩ aF))
theorem aoF(bg:Int->M.au->Option (M.aa×M.au))(ej:aB (ir bg)):aB (aaz (M.yc bg)):=ij (cx:=HE bg) (fz:=true) aY (aaA bg ej) fg ⟨Tryz.func103,by kernel_rfl⟩ (hl1 (aoE bg ej)) ⟨⟨[.bB []],[.el U.parser,.box [.ptr 0 0],.box [iq0,.str,.own 7,.own 8],.box [.fn 141 [.ptr 2 0,.ptr 1 0,.ptr 6 0]],.dead,.dead,.box [iq0],.arr U.str,.arr U.Term]⟩,fun x=>(x.2.1,x.2.2.2.1.1,x.2.2.2.1.2.1,x.2.2.2.2.2.2.2.1.1,x.2.2.2.2.2.2.2.2.1,x.2.2.2.2.2.2.2.2.2.1)⟩ (fun x=>rfl) (fun x=>by kernel_rfl)
def aaB(bg:Int->M.au->Option (M.aa×M.au)):Cx K:=bK [(30,.aZ),(139,.plain),(128,.jB),(140,.plain),(29,.aZ),(103,.aZ),(101,.aZ),(142,.aZ),(141,.aZ)] [sw M.gZ,ND M.rF,F9 M.f6,Nu M.vK,qL M.di,C0 (M.ma bg),aak (M.ya bg),HA M.nB,aas (M.AY bg),aaz (M.yc bg)] []
theorem aoG(bg:Int->M.au->Option (M.aa×M.au))(ej:aB (ir bg)):ba (aaB bg):=bA aY _ (ah uP (ah aaf (ah MV (ah Zo (ah sx (ah (Hy bg ej) (ah (aoo bg ej) (ah NF (ah (aox bg ej) (ah (aoF bg ej) aF))))))))))
theorem aoH(bg:Int->M.au->Option (M.aa×M.au))(ej:aB (ir bg)):aB (ir (M.tJ bg)):=ij (cx:=aaB bg) (fz:=true) aY (aoG bg ej) fg ⟨Tryz.func102,by kernel_rfl⟩ hq ⟨⟨[.el U.Term],[.el U.parser]⟩,fun x=>(x.1.1,x.2.1)⟩ (fun x=>rfl) (fun x=>by kernel_rfl)
theorem aaC:∀n,aB (ir (M.vM n))|0=>pS fun _=>rfl|n+1=>aoH (M.vM n) (aaC n)
theorem NG:aB (ir (M.rK)):=aaC ae
def aaD(m:Int->M.au->Option ((List UInt8)×M.au)):aM K:={f:=65,sh:=⟨[.ptr 0 0,iq0,.fn 67 []],[.el U.parser]⟩,R:=(List UInt8)×M.au,run:=fun x=>m x.1.2.1 x.2.1,dflt:=default,out:=fun r=>(Sh.enc D (.str) r.1,aU.encs D [.el U.parser] (r.2,()))}
def aaE:Cx K:=bK [(67,.plain)] [Zk M.CC] []
theorem aoI:ba aaE:=bA aY _ (ah anj aF)
theorem aoJ:aB (aaD (M.AW)):=bw (cx:=aaE) true aoI Tryz.func65 hq ⟨zt,fun x=>(x.1.1,x.2.1)⟩ (fun x=>by kernel_rfl)
def NH(m:M.au->Option ((List UInt8)×M.au)):aM K:={f:=31,sh:=uO,R:=(List UInt8)×M.au,run:=fun x=>m x.2.1,dflt:=default,out:=fun r=>(Sh.enc D (.str) r.1,aU.encs D [.el U.parser] (r.2,()))}
def aaF:Cx K:=bK [(65,.aZ)] [aaD M.AW] []
theorem aoK:ba aaF:=bA aY _ (ah aoJ aF)
theorem aaG:aB (NH (M.tD)):=bw (cx:=aaF) true aoK Tryz.func31 hq ⟨zt,fun x=>(x.1.1,x.2.1)⟩ (fun x=>by kernel_rfl)
def aaH(m:Int->(List UInt8)->Int->(List UInt8)->Bool->(List UInt8)->(List UInt8)->(List UInt8)->(List M.af)->Int->Bool->(List (List UInt8))->(List M.aa)->(List M.aV)->(List M.aX)->Option (Int×(List UInt8)×Int×(List UInt8)×Bool×(List UInt8)×(List UInt8)×(List UInt8)×(List M.af)×Int×Bool×(List (List UInt8))×(List M.aa)×(List M.aV)×(List M.aX))):aM K:={f:=137,sh:=YI,R:=Int×(List UInt8)×Int×(List UInt8)×Bool×(List UInt8)×(List UInt8)×(List UInt8)×(List M.af)×Int×Bool×(List (List UInt8))×(List M.aa)×(List M.aV)×(List M.aX),run:=fun x=>m x.2.2.1.1 x.2.2.1.2.1 x.2.2.1.2.2.1 x.2.2.1.2.2.2.1 x.2.2.1.2.2.2.2.2.2.2.1 x.2.2.1.2.2.2.2.2.2.2.2.1 x.2.2.1.2.2.2.2.2.2.2.2.2.1 x.2.2.1.2.2.2.2.2.2.2.2.2.2.1 x.2.2.2.1.1 x.2.2.2.1.2.1 x.2.2.2.1.2.2.1 x.2.2.2.2.1 x.2.2.2.2.2.1 x.2.2.2.2.2.2.1 x.2.2.2.2.2.2.2.1,dflt:=default,out:=fun r=>(Sh.enc D (.bB []) (),aU.encs D [.box [.ptr 2 0],.box [iq0,.str,iq0,.str,.own 7,.own 8,.own 9,.bool,.str,.str,.str,.own 10],.box [.ax U.Token,iq0,.bool],.dead,.dead,.dead,.dead,.arr U.str,.arr U.Term,.arr U.d3,.arr U.eg] (((),()),((r.1,(r.2.1,(r.2.2.1,(r.2.2.2.1,((),((),((),(r.2.2.2.2.1,(r.2.2.2.2.2.1,(r.2.2.2.2.2.2.1,(r.2.2.2.2.2.2.2.1,((),())))))))))))),((r.2.2.2.2.2.2.2.2.1,(r.2.2.2.2.2.2.2.2.2.1,(r.2.2.2.2.2.2.2.2.2.2.1,()))),((),((),((),((),(r.2.2.2.2.2.2.2.2.2.2.2.1,(r.2.2.2.2.2.2.2.2.2.2.2.2.1,(r.2.2.2.2.2.2.2.2.2.2.2.2.2.1,(r.2.2.2.2.2.2.2.2.2.2.2.2.2.2,()))))))))))))}
def aaI:Cx K:={jN with mode:=iK .plain [(30,.aZ),(29,.aZ),(102,.aZ)],mv:=true,call:=callOf D [sw M.gZ,qL M.di,ir M.rK],loop:=gW []}
theorem aoL:ba aaI:=bA aY _ (ah uP (ah sx (ah NG aF)))
theorem aoM:aB (aaH (M.A3)):=bw (cx:=aaI) true aoL Tryz.func137 hq ⟨YJ,fun x=>(x.2.2.1.1,x.2.2.1.2.1,x.2.2.1.2.2.1,x.2.2.1.2.2.2.1,x.2.2.1.2.2.2.2.2.2.2.1,x.2.2.1.2.2.2.2.2.2.2.2.1,x.2.2.1.2.2.2.2.2.2.2.2.2.1,x.2.2.1.2.2.2.2.2.2.2.2.2.2.1,x.2.2.2.1.1,x.2.2.2.1.2.1,x.2.2.2.1.2.2.1,x.2.2.2.2.2.2.2.2.1,x.2.2.2.2.2.2.2.2.2.1,x.2.2.2.2.2.2.2.2.2.2.1,x.2.2.2.2.2.2.2.2.2.2.2.1)⟩ (fun x=>by kernel_rfl)
def aaJ(y:((List M.af)×Int×Bool×Int×(List UInt8)×Int×(List UInt8)×Bool×(List UInt8)×(List UInt8)×(List UInt8)×(List (List UInt8))×(List M.aa)×(List M.aV)×(List M.aX))⊕((List M.af)×Int×Bool×Int×(List UInt8)×Int×(List UInt8)×Bool×(List UInt8)×(List UInt8)×(List UInt8)×(List (List UInt8))×(List M.aa)×(List M.aV)×(List M.aX))){R:Type}(k:KT R):R:=match y with|.inl a0=>kk k Ex.ret GU ((),((a0.1,(a0.2.1,(a0.2.2.1,()))),(((),()),((a0.2.2.2.1,(a0.2.2.2.2.1,(a0.2.2.2.2.2.1,(a0.2.2.2.2.2.2.1,((),((),((),(a0.2.2.2.2.2.2.2.1,(a0.2.2.2.2.2.2.2.2.1,(a0.2.2.2.2.2.2.2.2.2.1,(a0.2.2.2.2.2.2.2.2.2.2.1,((),())))))))))))),((),((),((),((),(a0.2.2.2.2.2.2.2.2.2.2.2.1,(a0.2.2.2.2.2.2.2.2.2.2.2.2.1,(a0.2.2.2.2.2.2.2.2.2.2.2.2.2.1,(a0.2.2.2.2.2.2.2.2.2.2.2.2.2.2,()))))))))))))|.inr a1=>kk k (Ex.exit 0) GU ((),((a1.1,(a1.2.1,(a1.2.2.1,()))),(((),()),((a1.2.2.2.1,(a1.2.2.2.2.1,(a1.2.2.2.2.2.1,(a1.2.2.2.2.2.2.1,((),((),((),(a1.2.2.2.2.2.2.2.1,(a1.2.2.2.2.2.2.2.2.1,(a1.2.2.2.2.2.2.2.2.2.1,(a1.2.2.2.2.2.2.2.2.2.2.1,((),())))))))))))),((),((),((),((),(a1.2.2.2.2.2.2.2.2.2.2.2.1,(a1.2.2.2.2.2.2.2.2.2.2.2.2.1,(a1.2.2.2.2.2.2.2.2.2.2.2.2.2.1,(a1.2.2.2.2.2.2.2.2.2.2.2.2.2.2,()))))))))))))
def aaK:List (cC K (((List M.af)×Int×Bool×Int×(List UInt8)×Int×(List UInt8)×Bool×(List UInt8)×(List UInt8)×(List UInt8)×(List (List UInt8))×(List M.aa)×(List M.aV)×(List M.aX))⊕((List M.af)×Int×Bool×Int×(List UInt8)×Int×(List UInt8)×Bool×(List UInt8)×(List UInt8)×(List UInt8)×(List (List UInt8))×(List M.aa)×(List M.aV)×(List M.aX)))):=[⟨Ex.ret,GU,fun x=>.inl (x.2.1.1,x.2.1.2.1,x.2.1.2.2.1,x.2.2.2.1.1,x.2.2.2.1.2.1,x.2.2.2.1.2.2.1,x.2.2.2.1.2.2.2.1,x.2.2.2.1.2.2.2.2.2.2.2.1,x.2.2.2.1.2.2.2.2.2.2.2.2.1,x.2.2.2.1.2.2.2.2.2.2.2.2.2.1,x.2.2.2.1.2.2.2.2.2.2.2.2.2.2.1,x.2.2.2.2.2.2.2.2.1,x.2.2.2.2.2.2.2.2.2.1,x.2.2.2.2.2.2.2.2.2.2.1,x.2.2.2.2.2.2.2.2.2.2.2.1)⟩,⟨(Ex.exit 0),GU,fun x=>.inr ((x.2.1.1,x.2.1.2.1,x.2.1.2.2.1,x.2.2.2.1.1,x.2.2.2.1.2.1,x.2.2.2.1.2.2.1,x.2.2.2.1.2.2.2.1,x.2.2.2.1.2.2.2.2.2.2.2.1,x.2.2.2.1.2.2.2.2.2.2.2.2.1,x.2.2.2.1.2.2.2.2.2.2.2.2.2.1,x.2.2.2.1.2.2.2.2.2.2.2.2.2.2.1,x.2.2.2.2.2.2.2.2.1,x.2.2.2.2.2.2.2.2.2.1,x.2.2.2.2.2.2.2.2.2.2.1,x.2.2.2.2.2.2.2.2.2.2.2.1))⟩]
def aaL:bQ K:=bV D false 30 7 [0,1,2,6] [] YK (fun x=>M.tM x.1.2.1 ae x.1.2.2.2.1 x.2.1 x.2.2.2.1.1 x.2.2.2.1.2.1 x.2.2.2.1.2.2.1 x.2.2.2.1.2.2.2.1 x.2.2.2.1.2.2.2.2.2.2.2.1 x.2.2.2.1.2.2.2.2.2.2.2.2.1 x.2.2.2.1.2.2.2.2.2.2.2.2.2.1 x.2.2.2.1.2.2.2.2.2.2.2.2.2.2.1 x.2.2.2.2.2.2.2.2.1 x.2.2.2.2.2.2.2.2.2.1 x.2.2.2.2.2.2.2.2.2.2.1 x.2.2.2.2.2.2.2.2.2.2.2.1) aaJ
def aaM(m:Int->M.au->Int->(List UInt8)->Int->(List UInt8)->Bool->(List UInt8)->(List UInt8)->(List UInt8)->(List (List UInt8))->(List M.aa)->(List M.aV)->(List M.aX)->Option (M.au×Int×(List UInt8)×Int×(List UInt8)×Bool×(List UInt8)×(List UInt8)×(List UInt8)×(List (List UInt8))×(List M.aa)×(List M.aV)×(List M.aX))):aM K:={f:=103,sh:=⟨[.ptr 0 0,iq0,.fn 137 [.ptr 1 0,.ptr 2 0]],[.el U.parser,.box [.ptr 0 0],.box [iq0,.str,iq0,.str,.own 3,.own 4,.own 5,.bool,.str,.str,.str,.own 6],.arr U.str,.arr U.Term,.arr U.d3,.arr U.eg]⟩,R:=M.au×Int×(List UInt8)×Int×(List UInt8)×Bool×(List UInt8)×(List UInt8)×(List UInt8)×(List (List UInt8))×(List M.aa)×(List M.aV)×(List M.aX),run:=fun x=>m x.1.2.1 x.2.1 x.2.2.2.1.1 x.2.2.2.1.2.1 x.2.2.2.1.2.2.1 x.2.2.2.1.2.2.2.1 x.2.2.2.1.2.2.2.2.2.2.2.1 x.2.2.2.1.2.2.2.2.2.2.2.2.1 x.2.2.2.1.2.2.2.2.2.2.2.2.2.1 x.2.2.2.1.2.2.2.2.2.2.2.2.2.2.1 x.2.2.2.2.1 x.2.2.2.2.2.1 x.2.2.2.2.2.2.1 x.2.2.2.2.2.2.2.1,dflt:=default,out:=fun r=>(Sh.enc D (.bB []) (),aU.encs D [.el U.parser,.box [.ptr 0 0],.box [iq0,.str,iq0,.str,.own 7,.own 8,.own 9,.bool,.str,.str,.str,.own 10],.dead,.dead,.dead,.dead,.arr U.str,.arr U.Term,.arr U.d3,.arr U.eg] (r.1,(((),()),((r.2.1,(r.2.2.1,(r.2.2.2.1,(r.2.2.2.2.1,((),((),((),(r.2.2.2.2.2.1,(r.2.2.2.2.2.2.1,(r.2.2.2.2.2.2.2.1,(r.2.2.2.2.2.2.2.2.1,((),())))))))))))),((),((),((),((),(r.2.2.2.2.2.2.2.2.2.1,(r.2.2.2.2.2.2.2.2.2.2.1,(r.2.2.2.2.2.2.2.2.2.2.2.1,(r.2.2.2.2.2.2.2.2.2.2.2.2,()))))))))))))}
def HG:Cx K:={jN with mode:=iK .plain [(32,.aZ),(137,.aZ)],mv:=true,call:=callOf D [aaH M.A3,m6 M.eG],loop:=gW [(1,aaL)]}
theorem aaN:ba HG:=bA aY _ (ah aoM (ah ow aF))
theorem aoN:bR HG (bC (bP Tryz.f103) 0) aaL:=lk (cx:=HG) (sh:=YK) (run:=fun n x=>M.tM x.1.2.1 n x.1.2.2.2.1 x.2.1 x.2.2.2.1.1 x.2.2.2.1.2.1 x.2.2.2.1.2.2.1 x.2.2.2.1.2.2.2.1 x.2.2.2.1.2.2.2.2.2.2.2.1 x.2.2.2.1.2.2.2.2.2.2.2.2.1 x.2.2.2.1.2.2.2.2.2.2.2.2.2.1 x.2.2.2.1.2.2.2.2.2.2.2.2.2.2.1 x.2.2.2.2.2.2.2.2.1 x.2.2.2.2.2.2.2.2.2.1 x.2.2.2.2.2.2.2.2.2.2.1 x.2.2.2.2.2.2.2.2.2.2.2.1) (bU:=aaK) aaN (fun m x=>by kernel_rfl) (ah ⟨dR,fun _ _ _=>rfl⟩ (ah ⟨cf,fun _ _ _=>rfl⟩ aF))
theorem aoO:aB (aaM (M.yf)):=bw (cx:=HG) true aaN Tryz.func103 (hl1 aoN) ⟨YL,fun x=>(x.2.1,x.2.2.2.1.1,x.2.2.2.1.2.1,x.2.2.2.1.2.2.1,x.2.2.2.1.2.2.2.1,x.2.2.2.1.2.2.2.2.2.2.2.1,x.2.2.2.1.2.2.2.2.2.2.2.2.1,x.2.2.2.1.2.2.2.2.2.2.2.2.2.1,x.2.2.2.1.2.2.2.2.2.2.2.2.2.2.1,x.2.2.2.2.2.2.2.2.1,x.2.2.2.2.2.2.2.2.2.1,x.2.2.2.2.2.2.2.2.2.2.1,x.2.2.2.2.2.2.2.2.2.2.2.1)⟩ (fun x=>by kernel_rfl)
def aaO(m:(List UInt8)->M.au->Option (M.ai×M.au)):aM K:={f:=100,sh:=GY,R:=M.ai×M.au,run:=fun x=>m x.1.2.1 x.2.1,dflt:=default,out:=fun r=>(Sh.enc D (.el U.Item) r.1,aU.encs D [.el U.parser] (r.2,()))}
def aaP:Cx K:=bK [(29,.aZ),(32,.aZ),(68,.aZ),(103,.aZ),(102,.aZ)] [qL M.di,m6 M.eG,zx M.mQ,aaM M.yf,ir M.rK] []
theorem aoP:ba aaP:=bA aY _ (ah sx (ah ow (ah CZ (ah aoO (ah NG aF)))))
theorem aoQ:aB (aaO (M.yi)):=bw (cx:=aaP) true aoP Tryz.func100 hq ⟨⟨[.el U.Item],[.el U.parser]⟩,fun x=>(x.1.1,x.2.1)⟩ (fun x=>by kernel_rfl)
def NI(m:M.au->Option (M.aI×M.au)):aM K:={f:=70,sh:=uO,R:=M.aI×M.au,run:=fun x=>m x.2.1,dflt:=default,out:=fun r=>(Sh.enc D (.el U.Path) r.1,aU.encs D [.el U.parser] (r.2,()))}
def aaQ:Cx K:=bK [(30,.aZ),(32,.aZ),(31,.aZ)] [sw M.gZ,m6 M.eG,NH M.tD] []
theorem aoR:ba aaQ:=bA aY _ (ah uP (ah ow (ah aaG aF)))
theorem aaR:aB (NI (M.nG)):=bw (cx:=aaQ) true aoR Tryz.func70 hq ⟨⟨[.el U.Path],[.el U.parser]⟩,fun x=>(x.1.1,x.2.1)⟩ (fun x=>by kernel_rfl)
def aaS(m:Int->(List UInt8)->Int->(List UInt8)->Bool->(List UInt8)->(List UInt8)->(List UInt8)->(List M.af)->Int->Bool->(List (List UInt8))->(List M.aa)->(List M.aV)->(List M.aX)->Option (Int×(List UInt8)×Int×(List UInt8)×Bool×(List UInt8)×(List UInt8)×(List UInt8)×(List M.af)×Int×Bool×(List (List UInt8))×(List M.aa)×(List M.aV)×(List M.aX))):aM K:={f:=104,sh:=YI,R:=Int×(List UInt8)×Int×(List UInt8)×Bool×(List UInt8)×(List UInt8)×(List UInt8)×(List M.af)×Int×Bool×(List (List UInt8))×(List M.aa)×(List M.aV)×(List M.aX),run:=fun x=>m x.2.2.1.1 x.2.2.1.2.1 x.2.2.1.2.2.1 x.2.2.1.2.2.2.1 x.2.2.1.2.2.2.2.2.2.2.1 x.2.2.1.2.2.2.2.2.2.2.2.1 x.2.2.1.2.2.2.2.2.2.2.2.2.1 x.2.2.1.2.2.2.2.2.2.2.2.2.2.1 x.2.2.2.1.1 x.2.2.2.1.2.1 x.2.2.2.1.2.2.1 x.2.2.2.2.1 x.2.2.2.2.2.1 x.2.2.2.2.2.2.1 x.2.2.2.2.2.2.2.1,dflt:=default,out:=fun r=>(Sh.enc D (.bB []) (),aU.encs D [.box [.ptr 2 0],.box [iq0,.str,iq0,.str,.own 7,.own 8,.own 9,.bool,.str,.str,.str,.own 10],.box [.ax U.Token,iq0,.bool],.dead,.dead,.dead,.dead,.arr U.str,.arr U.Term,.arr U.d3,.arr U.eg] (((),()),((r.1,(r.2.1,(r.2.2.1,(r.2.2.2.1,((),((),((),(r.2.2.2.2.1,(r.2.2.2.2.2.1,(r.2.2.2.2.2.2.1,(r.2.2.2.2.2.2.2.1,((),())))))))))))),((r.2.2.2.2.2.2.2.2.1,(r.2.2.2.2.2.2.2.2.2.1,(r.2.2.2.2.2.2.2.2.2.2.1,()))),((),((),((),((),(r.2.2.2.2.2.2.2.2.2.2.2.1,(r.2.2.2.2.2.2.2.2.2.2.2.2.1,(r.2.2.2.2.2.2.2.2.2.2.2.2.2.1,(r.2.2.2.2.2.2.2.2.2.2.2.2.2.2,()))))))))))))}
def aaT:Cx K:={jN with mode:=iK .plain [(101,.aZ),(32,.aZ)],mv:=true,call:=callOf D [HA M.nB,m6 M.eG],loop:=gW []}
theorem aoS:ba aaT:=bA aY _ (ah NF (ah ow aF))
theorem aoT:aB (aaS (M.A4)):=bw (cx:=aaT) true aoS Tryz.func104 hq ⟨YJ,fun x=>(x.2.2.1.1,x.2.2.1.2.1,x.2.2.1.2.2.1,x.2.2.1.2.2.2.1,x.2.2.1.2.2.2.2.2.2.2.1,x.2.2.1.2.2.2.2.2.2.2.2.1,x.2.2.1.2.2.2.2.2.2.2.2.2.1,x.2.2.1.2.2.2.2.2.2.2.2.2.2.1,x.2.2.2.1.1,x.2.2.2.1.2.1,x.2.2.2.1.2.2.1,x.2.2.2.2.2.2.2.2.1,x.2.2.2.2.2.2.2.2.2.1,x.2.2.2.2.2.2.2.2.2.2.1,x.2.2.2.2.2.2.2.2.2.2.2.1)⟩ (fun x=>by kernel_rfl)
def aaU:bQ K:=bV D false 30 7 [0,1,2,6] [] YM (fun x=>M.tN x.1.2.1 ae x.1.2.2.2.1 x.2.1 x.2.2.2.1.1 x.2.2.2.1.2.1 x.2.2.2.1.2.2.1 x.2.2.2.1.2.2.2.1 x.2.2.2.1.2.2.2.2.2.2.2.1 x.2.2.2.1.2.2.2.2.2.2.2.2.1 x.2.2.2.1.2.2.2.2.2.2.2.2.2.1 x.2.2.2.1.2.2.2.2.2.2.2.2.2.2.1 x.2.2.2.2.2.2.2.2.1 x.2.2.2.2.2.2.2.2.2.1 x.2.2.2.2.2.2.2.2.2.2.1 x.2.2.2.2.2.2.2.2.2.2.2.1) aaJ
def aaV(m:Int->M.au->Int->(List UInt8)->Int->(List UInt8)->Bool->(List UInt8)->(List UInt8)->(List UInt8)->(List (List UInt8))->(List M.aa)->(List M.aV)->(List M.aX)->Option (M.au×Int×(List UInt8)×Int×(List UInt8)×Bool×(List UInt8)×(List UInt8)×(List UInt8)×(List (List UInt8))×(List M.aa)×(List M.aV)×(List M.aX))):aM K:={f:=103,sh:=⟨[.ptr 0 0,iq0,.fn 104 [.ptr 1 0,.ptr 2 0]],[.el U.parser,.box [.ptr 0 0],.box [iq0,.str,iq0,.str,.own 3,.own 4,.own 5,.bool,.str,.str,.str,.own 6],.arr U.str,.arr U.Term,.arr U.d3,.arr U.eg]⟩,R:=M.au×Int×(List UInt8)×Int×(List UInt8)×Bool×(List UInt8)×(List UInt8)×(List UInt8)×(List (List UInt8))×(List M.aa)×(List M.aV)×(List M.aX),run:=fun x=>m x.1.2.1 x.2.1 x.2.2.2.1.1 x.2.2.2.1.2.1 x.2.2.2.1.2.2.1 x.2.2.2.1.2.2.2.1 x.2.2.2.1.2.2.2.2.2.2.2.1 x.2.2.2.1.2.2.2.2.2.2.2.2.1 x.2.2.2.1.2.2.2.2.2.2.2.2.2.1 x.2.2.2.1.2.2.2.2.2.2.2.2.2.2.1 x.2.2.2.2.1 x.2.2.2.2.2.1 x.2.2.2.2.2.2.1 x.2.2.2.2.2.2.2.1,dflt:=default,out:=fun r=>(Sh.enc D (.bB []) (),aU.encs D [.el U.parser,.box [.ptr 0 0],.box [iq0,.str,iq0,.str,.own 7,.own 8,.own 9,.bool,.str,.str,.str,.own 10],.dead,.dead,.dead,.dead,.arr U.str,.arr U.Term,.arr U.d3,.arr U.eg] (r.1,(((),()),((r.2.1,(r.2.2.1,(r.2.2.2.1,(r.2.2.2.2.1,((),((),((),(r.2.2.2.2.2.1,(r.2.2.2.2.2.2.1,(r.2.2.2.2.2.2.2.1,(r.2.2.2.2.2.2.2.2.1,((),())))))))))))),((),((),((),((),(r.2.2.2.2.2.2.2.2.2.1,(r.2.2.2.2.2.2.2.2.2.2.1,(r.2.2.2.2.2.2.2.2.2.2.2.1,(r.2.2.2.2.2.2.2.2.2.2.2.2,()))))))))))))}
def HH:Cx K:={jN with mode:=iK .plain [(32,.aZ),(104,.aZ)],mv:=true,call:=callOf D [aaS M.A4,m6 M.eG],loop:=gW [(1,aaU)]}
theorem aaW:ba HH:=bA aY _ (ah aoT (ah ow aF))
theorem aoU:bR HH (bC (bP Tryz.f103) 0) aaU:=lk (cx:=HH) (sh:=YM) (run:=fun n x=>M.tN x.1.2.1 n x.1.2.2.2.1 x.2.1 x.2.2.2.1.1 x.2.2.2.1.2.1 x.2.2.2.1.2.2.1 x.2.2.2.1.2.2.2.1 x.2.2.2.1.2.2.2.2.2.2.2.1 x.2.2.2.1.2.2.2.2.2.2.2.2.1 x.2.2.2.1.2.2.2.2.2.2.2.2.2.1 x.2.2.2.1.2.2.2.2.2.2.2.2.2.2.1 x.2.2.2.2.2.2.2.2.1 x.2.2.2.2.2.2.2.2.2.1 x.2.2.2.2.2.2.2.2.2.2.1 x.2.2.2.2.2.2.2.2.2.2.2.1) (bU:=aaK) aaW (fun m x=>by kernel_rfl) (ah ⟨dR,fun _ _ _=>rfl⟩ (ah ⟨cf,fun _ _ _=>rfl⟩ aF))
theorem aoV:aB (aaV (M.vS)):=bw (cx:=HH) true aaW Tryz.func103 (hl1 aoU) ⟨YL,fun x=>(x.2.1,x.2.2.2.1.1,x.2.2.2.1.2.1,x.2.2.2.1.2.2.1,x.2.2.2.1.2.2.2.1,x.2.2.2.1.2.2.2.2.2.2.2.1,x.2.2.2.1.2.2.2.2.2.2.2.2.1,x.2.2.2.1.2.2.2.2.2.2.2.2.2.1,x.2.2.2.1.2.2.2.2.2.2.2.2.2.2.1,x.2.2.2.2.2.2.2.2.1,x.2.2.2.2.2.2.2.2.2.1,x.2.2.2.2.2.2.2.2.2.2.1,x.2.2.2.2.2.2.2.2.2.2.2.1)⟩ (fun x=>by kernel_rfl)
def aaX(m:M.au->Option (M.ai×M.au)):aM K:={f:=69,sh:=uO,R:=M.ai×M.au,run:=fun x=>m x.2.1,dflt:=default,out:=fun r=>(Sh.enc D (.el U.Item) r.1,aU.encs D [.el U.parser] (r.2,()))}
def aaY:Cx K:=bK [(30,.aZ),(68,.aZ),(100,.aZ),(101,.aZ),(29,.aZ),(102,.aZ),(70,.aZ),(103,.aZ)] [sw M.gZ,zx M.mQ,aaO M.yi,HA M.nB,qL M.di,ir M.rK,NI M.nG,aaV M.vS] []
theorem aoW:ba aaY:=bA aY _ (ah uP (ah CZ (ah aoQ (ah NF (ah sx (ah NG (ah aaR (ah aoV aF))))))))
theorem aoX:aB (aaX (M.A8)):=bw (cx:=aaY) true aoW Tryz.func69 hq ⟨⟨[.el U.Item],[.el U.parser]⟩,fun x=>(x.1.1,x.2.1)⟩ (fun x=>by kernel_rfl)
def aoY(y:M.au×(List UInt8)×(List UInt8)×(List M.ai)×(List M.ai)){R:Type}(k:KT R):R:=match y with|a0=>kk k (Ex.exit 0) G5 (((),((),((),()))),(a0.1,((a0.2.1,((),())),((a0.2.2.1,((),())),((),((),(a0.2.2.2.1,(a0.2.2.2.2,()))))))))
def aoZ:List (cC K (M.au×(List UInt8)×(List UInt8)×(List M.ai)×(List M.ai))):=[⟨(Ex.exit 0),G5,fun x=>(x.2.1,x.2.2.1.1,x.2.2.2.1.1,x.2.2.2.2.2.2.1,x.2.2.2.2.2.2.2.1)⟩]
def aaZ:bQ K:=bV D false 37 5 [0,2,3] [0,2,3] G5 (fun x=>M.yj x.2.2.1.1 x.2.2.2.1.1 x.2.2.2.2.2.2.1 ae x.2.1 x.2.2.2.2.2.2.2.1) aoY
def aa0(m:M.au->Option (M.aG×M.au)):aM K:={f:=33,sh:=uO,R:=M.aG×M.au,run:=fun x=>m x.2.1,dflt:=default,out:=fun r=>(Sh.enc D (.el U.dk) r.1,aU.encs D [.el U.parser] (r.2,()))}
def HJ:Cx K:=bK [(30,.aZ),(29,.aZ),(68,.aZ),(69,.aZ)] [sw M.gZ,qL M.di,zx M.mQ,aaX M.A8] [(3,aaZ)]
theorem aa1:ba HJ:=bA aY _ (ah uP (ah sx (ah CZ (ah aoX aF))))
theorem ao0:bR HJ (bC (bP Tryz.f33) 0) aaZ:=lk (cx:=HJ) (sh:=G5) (run:=fun n x=>M.yj x.2.2.1.1 x.2.2.2.1.1 x.2.2.2.2.2.2.1 n x.2.1 x.2.2.2.2.2.2.2.1) (bU:=aoZ) aa1 (fun m x=>by kernel_rfl) (ah ⟨cf,fun _ _ _=>rfl⟩ aF)
theorem ao1:aB (aa0 (M.yk)):=bw (cx:=HJ) true aa1 Tryz.func33 (hl1 ao0) ⟨⟨[.el U.dk],[.el U.parser]⟩,fun x=>(x.1.1,x.2.1)⟩ (fun x=>by kernel_rfl)
def ao2(y:M.au×(List UInt8)×(List UInt8)×(List M.aO)×(List M.aO)){R:Type}(k:KT R):R:=match y with|a0=>kk k (Ex.exit 0) G6 (((),((),((),()))),(a0.1,((a0.2.1,((),())),((a0.2.2.1,((),())),((),((),(a0.2.2.2.1,(a0.2.2.2.2,()))))))))
def ao3:List (cC K (M.au×(List UInt8)×(List UInt8)×(List M.aO)×(List M.aO))):=[⟨(Ex.exit 0),G6,fun x=>(x.2.1,x.2.2.1.1,x.2.2.2.1.1,x.2.2.2.2.2.2.1,x.2.2.2.2.2.2.2.1)⟩]
def aa2:bQ K:=bV D false 56 5 [0,2,3] [0,2,3] G6 (fun x=>M.rN x.2.2.1.1 x.2.2.2.1.1 x.2.2.2.2.2.2.1 ae x.2.1 x.2.2.2.2.2.2.2.1) ao2
def aa3(m:M.au->Option (M.aQ×M.au)):aM K:={f:=34,sh:=uO,R:=M.aQ×M.au,run:=fun x=>m x.2.1,dflt:=default,out:=fun r=>(Sh.enc D (.el U.dN) r.1,aU.encs D [.el U.parser] (r.2,()))}
def HK:Cx K:=bK [(30,.aZ),(29,.aZ),(68,.aZ),(32,.aZ),(70,.aZ)] [sw M.gZ,qL M.di,zx M.mQ,m6 M.eG,NI M.nG] [(3,aa2)]
theorem aa4:ba HK:=bA aY _ (ah uP (ah sx (ah CZ (ah ow (ah aaR aF)))))
theorem ao4:bR HK (bC (bP Tryz.f34) 0) aa2:=lk (cx:=HK) (sh:=G6) (run:=fun n x=>M.rN x.2.2.1.1 x.2.2.2.1.1 x.2.2.2.2.2.2.1 n x.2.1 x.2.2.2.2.2.2.2.1) (bU:=ao3) aa4 (fun m x=>by kernel_rfl) (ah ⟨cf,fun _ _ _=>rfl⟩ aF)
theorem ao5:aB (aa3 (M.vT)):=bw (cx:=HK) true aa4 Tryz.func34 (hl1 ao4) ⟨⟨[.el U.dN],[.el U.parser]⟩,fun x=>(x.1.1,x.2.1)⟩ (fun x=>by kernel_rfl)
def kC(m:Int->M.ay->Option (M.aa×M.ay)):aM K:={f:=152,sh:=⟨[.ptr 0 0,iq0],[.el U.dm]⟩,R:=M.aa×M.ay,run:=fun x=>m x.1.2.1 x.2.1,dflt:=default,out:=fun r=>(Sh.enc D (.el U.Term) r.1,aU.encs D [.el U.dm] (r.2,()))}
def aa5(m:Int->M.ay->Option ((List M.aa)×M.ay)):aM K:={f:=175,sh:=⟨[.ptr 0 0,iq0],[.el U.dm]⟩,R:=(List M.aa)×M.ay,run:=fun x=>m x.1.2.1 x.2.1,dflt:=default,out:=fun r=>(Sh.enc D (.ax U.Term) r.1,aU.encs D [.el U.dm] (r.2,()))}
def aa6(cg:Int->M.ay->Option (M.aa×M.ay)):Cx K:=bK [(84,.aZ),(152,.aZ),(81,.aZ)] [mZ M.dJ,kC cg,oq M.dE] []
theorem ao6(cg:Int->M.ay->Option (M.aa×M.ay))(jO:aB (kC cg)):ba (aa6 cg):=bA aY _ (ah ot (ah jO (ah pv aF)))
theorem ao7(cg:Int->M.ay->Option (M.aa×M.ay))(jO:aB (kC cg)):aB (aa5 (M.A2 cg)):=ij (cx:=aa6 cg) (fz:=true) aY (ao6 cg jO) fg ⟨Tryz.func175,by kernel_rfl⟩ hq ⟨⟨[.ax U.Term],[.el U.dm]⟩,fun x=>(x.1.1,x.2.1)⟩ (fun x=>rfl) (fun x=>by kernel_rfl)
def aa7(m:(List UInt8)->Option Bool):aM K:=cB 173 zs1 (fun x=>m x.1.1)
def aa8:Cx K:=bK [(174,.plain)] [NC M.tz] []
theorem ao8:ba aa8:=bA aY _ (ah Z5 aF)
theorem ao9:aB (aa7 (M.AS)):=bw (cx:=aa8) true ao8 Tryz.func173 hq ⟨zs0,fun x=>x.1.1⟩ (fun x=>by kernel_rfl)
def FM(m:M.ay->Option ((List UInt8)×M.ay)):aM K:={f:=151,sh:=oo,R:=(List UInt8)×M.ay,run:=fun x=>m x.2.1,dflt:=default,out:=fun r=>(Sh.enc D (.str) r.1,aU.encs D [.el U.dm] (r.2,()))}
def aa9:Cx K:=bK [(52,.aZ),(173,.plain),(82,.aZ)] [wN M.lG,aa7 M.AS,qE M.gh] []
theorem apa:ba aa9:=bA aY _ (ah zd (ah ao9 (ah sn aF)))
theorem MG:aB (FM (M.nC)):=bw (cx:=aa9) true apa Tryz.func151 hq ⟨Ni,fun x=>(x.1.1,x.2.1)⟩ (fun x=>by kernel_rfl)
def CN(m:Int->Int->M.ay->Option (M.ay)):aM K:={f:=176,sh:=⟨[.ptr 0 0,iq0,iq0],[.el U.dm]⟩,R:=M.ay,run:=fun x=>m x.1.2.1 x.1.2.2.1 x.2.1,dflt:=default,out:=fun r=>(Sh.enc D (.bB []) (),aU.encs D [.el U.dm] (r,()))}
def aba:Cx K:=bK [(81,.aZ)] [oq M.dE] []
theorem apb:ba aba:=bA aY _ (ah pv aF)
theorem FN:aB (CN (M.ko)):=bw (cx:=aba) true apb Tryz.func176 hq ⟨Nh,fun x=>x.2.1⟩ (fun x=>by kernel_rfl)
def apc(y:(List M.af)×Int×Bool×Int×(List UInt8)×(List (List UInt8))×(List M.aa)){R:Type}(k:KT R):R:=match y with|a0=>kk k (Ex.exit 0) YN ((),((a0.1,(a0.2.1,(a0.2.2.1,()))),((a0.2.2.2.1,(a0.2.2.2.2.1,((),((),())))),((),((),(a0.2.2.2.2.2.1,(a0.2.2.2.2.2.2,())))))))
def apd:List (cC K ((List M.af)×Int×Bool×Int×(List UInt8)×(List (List UInt8))×(List M.aa))):=[⟨(Ex.exit 0),YN,fun x=>(x.2.1.1,x.2.1.2.1,x.2.1.2.2.1,x.2.2.1.1,x.2.2.1.2.1,x.2.2.2.2.2.1,x.2.2.2.2.2.2.1)⟩]
def abb(cg:Int->M.ay->Option (M.aa×M.ay)):bQ K:=bV D false 98 4 [0,1,2] [] YO (fun x=>M.kq cg x.1.2.2.1 x.2.2.1.1 x.2.2.1.2.1 ae x.2.1 x.2.2.2.2.2.1 x.2.2.2.2.2.2.1) apc
def abd(m:Int->M.ay->Int->(List UInt8)->(List (List UInt8))->(List M.aa)->Option (M.ay×Int×(List UInt8)×(List (List UInt8))×(List M.aa))):aM K:={f:=177,sh:=⟨[.ptr 0 0,.ptr 1 0,iq0],[.el U.dm,.box [iq0,.str,.own 2,.own 3],.arr U.str,.arr U.Term]⟩,R:=M.ay×Int×(List UInt8)×(List (List UInt8))×(List M.aa),run:=fun x=>m x.1.2.2.1 x.2.1 x.2.2.1.1 x.2.2.1.2.1 x.2.2.2.1 x.2.2.2.2.1,dflt:=default,out:=fun r=>(Sh.enc D (.bB []) (),aU.encs D [.el U.dm,.box [iq0,.str,.own 4,.own 5],.dead,.dead,.arr U.str,.arr U.Term] (r.1,((r.2.1,(r.2.2.1,((),((),())))),((),((),(r.2.2.2.1,(r.2.2.2.2,())))))))}
def HM(cg:Int->M.ay->Option (M.aa×M.ay)):Cx K:={jN with mode:=iK .plain [(81,.aZ),(82,.aZ),(152,.aZ),(84,.aZ),(176,.aZ)],mv:=true,call:=callOf D [oq M.dE,qE M.gh,kC cg,mZ M.dJ,CN M.ko],loop:=gW [(1,abb cg)]}
theorem abe(cg:Int->M.ay->Option (M.aa×M.ay))(jO:aB (kC cg)):ba (HM cg):=bA aY _ (ah pv (ah sn (ah jO (ah ot (ah FN aF)))))
theorem ape(cg:Int->M.ay->Option (M.aa×M.ay))(jO:aB (kC cg)):bR (HM cg) (bC (bP Tryz.f177) 0) (abb cg):=lk (cx:=HM cg) (sh:=YO) (run:=fun n x=>M.kq cg x.1.2.2.1 x.2.2.1.1 x.2.2.1.2.1 n x.2.1 x.2.2.2.2.2.1 x.2.2.2.2.2.2.1) (bU:=apd) (abe cg jO) (fun m x=>by kernel_rfl) (ah ⟨cf,fun _ _ _=>rfl⟩ aF)
theorem apf(cg:Int->M.ay->Option (M.aa×M.ay))(jO:aB (kC cg)):aB (abd (M.nD cg)):=ij (cx:=HM cg) (fz:=true) aY (abe cg jO) fg ⟨Tryz.func177,by kernel_rfl⟩ (hl1 (ape cg jO)) ⟨⟨[.bB []],[.el U.dm,.box [iq0,.str,.own 4,.own 5],.dead,.dead,.arr U.str,.arr U.Term]⟩,fun x=>(x.2.1,x.2.2.1.1,x.2.2.1.2.1,x.2.2.2.2.2.1,x.2.2.2.2.2.2.1)⟩ (fun x=>rfl) (fun x=>by kernel_rfl)
def apg(y:(List M.af)×Int×Bool×Int×(List UInt8)×Int×(List UInt8)×(List (List UInt8))×(List M.aa)×(List (List UInt8))×(List M.aa)){R:Type}(k:KT R):R:=match y with|a0=>kk k (Ex.exit 1) YP (((),((),())),((a0.1,(a0.2.1,(a0.2.2.1,()))),((a0.2.2.2.1,(a0.2.2.2.2.1,((),((),())))),((a0.2.2.2.2.2.1,(a0.2.2.2.2.2.2.1,((),((),())))),((),((),((),((),(a0.2.2.2.2.2.2.2.1,(a0.2.2.2.2.2.2.2.2.1,(a0.2.2.2.2.2.2.2.2.2.1,(a0.2.2.2.2.2.2.2.2.2.2,()))))))))))))
def aph:List (cC K ((List M.af)×Int×Bool×Int×(List UInt8)×Int×(List UInt8)×(List (List UInt8))×(List M.aa)×(List (List UInt8))×(List M.aa))):=[⟨(Ex.exit 1),YP,fun x=>(x.2.1.1,x.2.1.2.1,x.2.1.2.2.1,x.2.2.1.1,x.2.2.1.2.1,x.2.2.2.1.1,x.2.2.2.1.2.1,x.2.2.2.2.2.2.2.2.1,x.2.2.2.2.2.2.2.2.2.1,x.2.2.2.2.2.2.2.2.2.2.1,x.2.2.2.2.2.2.2.2.2.2.2.1)⟩]
def abf(cg:Int->M.ay->Option (M.aa×M.ay)):bQ K:=bV D false 101 7 [0,1,4,6] [4,6] YQ (fun x=>M.rJ cg x.1.2.1 x.2.2.1.1 x.2.2.1.2.1 x.2.2.2.1.1 x.2.2.2.1.2.1 x.2.2.2.2.2.2.2.2.1 x.2.2.2.2.2.2.2.2.2.1 x.2.2.2.2.2.2.2.2.2.2.1 ae x.2.1 x.2.2.2.2.2.2.2.2.2.2.2.1) apg
def HO(cg:Int->M.ay->Option (M.aa×M.ay)):Cx K:=bK [(82,.aZ),(174,.plain),(81,.aZ),(152,.aZ),(175,.aZ),(84,.aZ),(176,.aZ),(151,.aZ),(177,.aZ)] [qE M.gh,NC M.tz,oq M.dE,kC cg,aa5 (M.A2 cg),FM M.nC,abd (M.nD cg),mZ M.dJ,CN M.ko] [(20,abf cg)]
theorem abg(cg:Int->M.ay->Option (M.aa×M.ay))(jO:aB (kC cg)):ba (HO cg):=bA aY _ (ah sn (ah Z5 (ah pv (ah jO (ah (ao7 cg jO) (ah MG (ah (apf cg jO) (ah ot (ah FN aF)))))))))
theorem api(cg:Int->M.ay->Option (M.aa×M.ay))(jO:aB (kC cg)):bR (HO cg) (bC (bP Tryz.f152) 0) (abf cg):=lk (cx:=HO cg) (sh:=YQ) (run:=fun n x=>M.rJ cg x.1.2.1 x.2.2.1.1 x.2.2.1.2.1 x.2.2.2.1.1 x.2.2.2.1.2.1 x.2.2.2.2.2.2.2.2.1 x.2.2.2.2.2.2.2.2.2.1 x.2.2.2.2.2.2.2.2.2.2.1 n x.2.1 x.2.2.2.2.2.2.2.2.2.2.2.1) (bU:=aph) (abg cg jO) (fun m x=>by kernel_rfl) (ah ⟨cf,fun _ _ _=>rfl⟩ aF)
theorem apj(cg:Int->M.ay->Option (M.aa×M.ay))(jO:aB (kC cg)):aB (kC (M.vO cg)):=ij (cx:=HO cg) (fz:=true) aY (abg cg jO) fg ⟨Tryz.func152,by kernel_rfl⟩ (hl1 (api cg jO)) ⟨⟨[.el U.Term],[.el U.dm]⟩,fun x=>(x.1.1,x.2.1)⟩ (fun x=>rfl) (fun x=>by kernel_rfl)
theorem abh:∀n,aB (kC (M.tK n))|0=>pS fun _=>rfl|n+1=>apj (M.tK n) (abh n)
theorem MI:aB (kC (M.tL)):=abh ae
def UR(y:(List M.af)×Int×Bool×(List UInt8)×(List UInt8)×(List UInt8)×(List UInt8)×(List M.aG)×(List M.aQ)×(List M.aG)×(List M.aQ)){R:Type}(k:KT R):R:=match y with|a0=>kk k (Ex.exit 0) Yl (((),((),())),((a0.1,(a0.2.1,(a0.2.2.1,()))),((a0.2.2.2.1,(a0.2.2.2.2.1,((),((),())))),((a0.2.2.2.2.2.1,(a0.2.2.2.2.2.2.1,((),((),())))),((),((),((),((),(a0.2.2.2.2.2.2.2.1,(a0.2.2.2.2.2.2.2.2.1,(a0.2.2.2.2.2.2.2.2.2.1,(a0.2.2.2.2.2.2.2.2.2.2,()))))))))))))
def UW:List (cC K ((List M.af)×Int×Bool×(List UInt8)×(List UInt8)×(List UInt8)×(List UInt8)×(List M.aG)×(List M.aQ)×(List M.aG)×(List M.aQ))):=[⟨(Ex.exit 0),Yl,fun x=>(x.2.1.1,x.2.1.2.1,x.2.1.2.2.1,x.2.2.1.1,x.2.2.1.2.1,x.2.2.2.1.1,x.2.2.2.1.2.1,x.2.2.2.2.2.2.2.2.1,x.2.2.2.2.2.2.2.2.2.1,x.2.2.2.2.2.2.2.2.2.2.1,x.2.2.2.2.2.2.2.2.2.2.2.1)⟩]
def abj:bQ K:=bV D false 72 7 [0,2,3] [2,3] YR (fun x=>M.kt x.2.2.1.1 x.2.2.1.2.1 x.2.2.2.1.1 x.2.2.2.1.2.1 x.2.2.2.2.2.2.2.2.1 x.2.2.2.2.2.2.2.2.2.1 ae x.2.1 x.2.2.2.2.2.2.2.2.2.2.1 x.2.2.2.2.2.2.2.2.2.2.2.1) UR
def abk(m:M.au->Option ((List UInt8)×(List UInt8)×M.au×(List M.aG)×(List M.aQ))):aM K:={f:=15,sh:=uO,R:=(List UInt8)×(List UInt8)×M.au×(List M.aG)×(List M.aQ),run:=fun x=>m x.2.1,dflt:=default,out:=fun r=>(Sh.enc D (.agg [.str,.str,.own 1,.own 2]) (r.1,(r.2.1,((),((),())))),aU.encs D [.el U.parser,.arr U.dk,.arr U.dN] (r.2.2.1,(r.2.2.2.1,(r.2.2.2.2,()))))}
def HQ:Cx K:={jN with mode:=iK .plain [(29,.aZ),(30,.aZ),(31,.aZ),(32,.aZ),(33,.aZ),(34,.aZ)],xb:=[[none,none,some U.dk,some U.dN]],call:=callOf D [qL M.di,sw M.gZ,NH M.tD,m6 M.eG,aa0 M.yk,aa3 M.vT],loop:=gW [(7,abj)]}
theorem abl:ba HQ:=bA aY _ (ah sx (ah uP (ah aaG (ah ow (ah ao1 (ah ao5 aF))))))
theorem apk:bR HQ (bC (bP Tryz.f15) 0) abj:=lk (cx:=HQ) (sh:=YR) (run:=fun n x=>M.kt x.2.2.1.1 x.2.2.1.2.1 x.2.2.2.1.1 x.2.2.2.1.2.1 x.2.2.2.2.2.2.2.2.1 x.2.2.2.2.2.2.2.2.2.1 n x.2.1 x.2.2.2.2.2.2.2.2.2.2.1 x.2.2.2.2.2.2.2.2.2.2.2.1) (bU:=UW) abl (fun m x=>by kernel_rfl) (ah ⟨cf,fun _ _ _=>rfl⟩ aF)
theorem apl:aB (abk (M.Bd)):=bw (cx:=HQ) false abl Tryz.func15 (hl1 apk) ⟨⟨[.agg [.str,.str,.own 1,.own 2]],[.el U.parser,.arr U.dk,.arr U.dN]⟩,fun x=>(x.1.1.1,x.1.1.2.1,x.2.1,x.2.2.1,x.2.2.2.1)⟩ (fun x=>by kernel_rfl)
def abm(m:M.au->(List UInt8)->(List UInt8)->(List M.aG)->(List M.aQ)->Option (M.au×(List UInt8)×(List UInt8)×(List M.aG)×(List M.aQ))):aM K:={f:=14,sh:=⟨[.ptr 0 0,.ptr 1 0],[.el U.parser,.box [.str,.str,.own 2,.own 3],.arr U.dk,.arr U.dN]⟩,R:=M.au×(List UInt8)×(List UInt8)×(List M.aG)×(List M.aQ),run:=fun x=>m x.2.1 x.2.2.1.1 x.2.2.1.2.1 x.2.2.2.1 x.2.2.2.2.1,dflt:=default,out:=fun r=>(Sh.enc D (.bB []) (),aU.encs D [.el U.parser,.box [.str,.str,.own 4,.own 5],.dead,.dead,.arr U.dk,.arr U.dN] (r.1,((r.2.1,(r.2.2.1,((),((),())))),((),((),(r.2.2.2.1,(r.2.2.2.2,())))))))}
def abn:Cx K:={jN with mode:=iK .plain [(15,.aZ)],mv:=true,call:=callOf D [abk M.Bd],loop:=gW []}
theorem apm:ba abn:=bA aY _ (ah apl aF)
theorem apn:aB (abm (M.Be)):=bw (cx:=abn) true apm Tryz.func14 hq ⟨⟨[.bB []],[.el U.parser,.box [.str,.str,.own 4,.own 5],.dead,.dead,.arr U.dk,.arr U.dN]⟩,fun x=>(x.2.1,x.2.2.1.1,x.2.2.1.2.1,x.2.2.2.2.2.1,x.2.2.2.2.2.2.1)⟩ (fun x=>by kernel_rfl)
def abo(m:(List UInt8)->(List UInt8)->(List UInt8)->(List M.aG)->(List M.aQ)->Option (Int×Int×(List UInt8)×(List UInt8)×(List M.aG)×(List M.aQ))):aM K:={f:=13,sh:=⟨[.str,.fn 14 [.ptr 0 0]],[.box [.str,.str,.own 1,.own 2],.arr U.dk,.arr U.dN]⟩,R:=Int×Int×(List UInt8)×(List UInt8)×(List M.aG)×(List M.aQ),run:=fun x=>m x.1.1 x.2.1.1 x.2.1.2.1 x.2.2.1 x.2.2.2.1,dflt:=default,out:=fun r=>(Sh.enc D (.bB [iq0,iq0]) (r.1,(r.2.1,())),aU.encs D [.box [.str,.str,.own 3,.own 4],.dead,.dead,.arr U.dk,.arr U.dN] ((r.2.2.1,(r.2.2.2.1,((),((),())))),((),((),(r.2.2.2.2.1,(r.2.2.2.2.2,()))))))}
def abp:Cx K:={jN with mode:=iK .plain [(28,.jB),(14,.aZ)],mv:=true,call:=callOf D [ZX M.AK,abm M.Be],loop:=gW []}
theorem apo:ba abp:=bA aY _ (ah an2 (ah apn aF))
theorem apq:aB (abo (M.qd)):=bw (cx:=abp) true apo Tryz.func13 hq ⟨⟨[.bB [iq0,iq0]],[.box [.str,.str,.own 3,.own 4],.dead,.dead,.arr U.dk,.arr U.dN]⟩,fun x=>(x.1.1.1,x.1.1.2.1,x.2.1.1,x.2.1.2.1,x.2.2.2.2.1,x.2.2.2.2.2.1)⟩ (fun x=>by kernel_rfl)
def abq(m:M.aX->Option ((List UInt8))):aM K:=cS 35 ⟨[.el U.eg],[]⟩ (fun x=>m x.1.1)
theorem apr:aB (abq (M.Bf)):=bw (cx:=iQ) true jh Tryz.func35 hq ⟨zs1,fun x=>x.1.1⟩ (fun x=>by kernel_rfl)
def aps(y:(List M.aG)×Int×Int×(List M.ai)×Int×Int×M.aw×M.aG×(List (List UInt8))×(List (List UInt8))×(List (List UInt8))×(List (List UInt8))){R:Type}(k:KT R):R:=match y with|a0=>kk k (Ex.exit 5) G7 (((),((),((),((),((),((),(a0.1,(a0.2.1,(a0.2.2.1,(a0.2.2.2.1,(a0.2.2.2.2.1,(a0.2.2.2.2.2.1,())))))))))))),(a0.2.2.2.2.2.2.1,((),((),(a0.2.2.2.2.2.2.2.1,((),((),(a0.2.2.2.2.2.2.2.2.1,(a0.2.2.2.2.2.2.2.2.2.1,(a0.2.2.2.2.2.2.2.2.2.2.1,(a0.2.2.2.2.2.2.2.2.2.2.2,())))))))))))
def apt:List (cC K ((List M.aG)×Int×Int×(List M.ai)×Int×Int×M.aw×M.aG×(List (List UInt8))×(List (List UInt8))×(List (List UInt8))×(List (List UInt8)))):=[⟨(Ex.exit 5),G7,fun x=>(x.1.2.2.2.2.2.2.1,x.1.2.2.2.2.2.2.2.1,x.1.2.2.2.2.2.2.2.2.1,x.1.2.2.2.2.2.2.2.2.2.1,x.1.2.2.2.2.2.2.2.2.2.2.1,x.1.2.2.2.2.2.2.2.2.2.2.2.1,x.2.1,x.2.2.2.2.1,x.2.2.2.2.2.2.2.1,x.2.2.2.2.2.2.2.2.1,x.2.2.2.2.2.2.2.2.2.1,x.2.2.2.2.2.2.2.2.2.2.1)⟩]
def abr:bQ K:=bV D false 96 6 [1,3,4,6,7,8,18,19,20,27,28,29,50,51,52] [1,3,4,6,7,8,18,19,20,27,28,29] YS (fun x=>M.yo x.1.2.2.2.2.2.2.1 x.1.2.2.2.2.2.2.2.1 x.1.2.2.2.2.2.2.2.2.1 x.1.2.2.2.2.2.2.2.2.2.1 x.1.2.2.2.2.2.2.2.2.2.2.1 x.1.2.2.2.2.2.2.2.2.2.2.2.1 x.1.2.2.2.2.2.2.2.2.2.2.2.2.1 x.1.2.2.2.2.2.2.2.2.2.2.2.2.2.1 x.2.1 x.2.2.2.2.1 x.2.2.2.2.2.2.2.1 x.2.2.2.2.2.2.2.2.1 x.2.2.2.2.2.2.2.2.2.1 ae x.1.2.2.2.2.2.2.2.2.2.2.2.2.2.2.1 x.2.2.2.2.2.2.2.2.2.2.1) aps
def apu(y:(List M.aG)×Int×Int×M.aw×M.aG×(List (List UInt8))×(List (List UInt8))×(List (List UInt8))×(List (List UInt8))){R:Type}(k:KT R):R:=match y with|a0=>kk k (Ex.exit 2) YT (((),((),((),((),((),((),(a0.1,(a0.2.1,(a0.2.2.1,()))))))))),(a0.2.2.2.1,((),((),(a0.2.2.2.2.1,((),((),(a0.2.2.2.2.2.1,(a0.2.2.2.2.2.2.1,(a0.2.2.2.2.2.2.2.1,(a0.2.2.2.2.2.2.2.2,())))))))))))
def apv:List (cC K ((List M.aG)×Int×Int×M.aw×M.aG×(List (List UInt8))×(List (List UInt8))×(List (List UInt8))×(List (List UInt8)))):=[⟨(Ex.exit 2),YT,fun x=>(x.1.2.2.2.2.2.2.1,x.1.2.2.2.2.2.2.2.1,x.1.2.2.2.2.2.2.2.2.1,x.2.1,x.2.2.2.2.1,x.2.2.2.2.2.2.2.1,x.2.2.2.2.2.2.2.2.1,x.2.2.2.2.2.2.2.2.2.1,x.2.2.2.2.2.2.2.2.2.2.1)⟩]
def abt:bQ K:=bV D false 96 6 [1,3,4,6,7,8,18,19,20,27,28,29] [1,3,4,6,7,8,18,19,20] G7 (fun x=>M.tU ae x.1.2.2.2.2.2.2.1 x.1.2.2.2.2.2.2.2.1 x.1.2.2.2.2.2.2.2.2.1 x.1.2.2.2.2.2.2.2.2.2.1 x.1.2.2.2.2.2.2.2.2.2.2.1 x.1.2.2.2.2.2.2.2.2.2.2.2.1 x.2.1 x.2.2.2.2.1 x.2.2.2.2.2.2.2.1 x.2.2.2.2.2.2.2.2.1 x.2.2.2.2.2.2.2.2.2.1 x.2.2.2.2.2.2.2.2.2.2.1) apu
def U9(y:Bool⊕(M.aw×(List (List UInt8))×(List (List UInt8)))){R:Type}(k:KT R):R:=match y with|.inl a0=>kk k Ex.ret Ym (((),((),((),(a0,())))),((),((),((),((),((),()))))))|.inr a1=>kk k (Ex.exit 0) Yn (((),((),((),((),())))),(a1.1,((),((),(a1.2.1,(a1.2.2,()))))))
def Vd:List (cC K ((Bool)⊕(M.aw×(List (List UInt8))×(List (List UInt8))))):=[⟨Ex.ret,Ym,fun x=>.inl x.1.2.2.2.1⟩,⟨(Ex.exit 0),Yn,fun x=>.inr ((x.2.1,x.2.2.2.2.1,x.2.2.2.2.2.1))⟩]
def abu:bQ K:=bV D false 96 3 [1,3,4,18,19,20] [1,3,4,2] YU (fun x=>M.yt ae x.1.2.2.2.1 x.1.2.2.2.2.1 x.1.2.2.2.2.2.1 x.2.1 x.2.2.2.2.1 x.2.2.2.2.2.1) U9
def apw(y:(List (List UInt8))×(List (List UInt8))){R:Type}(k:KT R):R:=match y with|a0=>kk k (Ex.exit 7) YV (((),((),())),((),((),(a0.1,(a0.2,())))))
def apx:List (cC K ((List (List UInt8))×(List (List UInt8)))):=[⟨(Ex.exit 7),YV,fun x=>(x.2.2.2.1,x.2.2.2.2.1)⟩]
def abv:bQ K:=bV D false 96 2 [3,4,78,79,80] [3,4] YW (fun x=>M.yu x.1.2.2.1 x.1.2.2.2.1 x.2.2.2.1 ae x.1.2.2.2.2.1 x.2.2.2.2.1) apw
def abw(m:M.aw->Option Bool):aM K:=cB 16 qF (fun x=>m x.1.1)
def qM:Cx K:=bK [(35,.plain),(36,.plain)] [abq M.Bf,KB M.oS] [(15,abr),(7,abt),(3,abu),(25,abv)]
theorem C2:ba qM:=bA aY _ (ah apr (ah aeH aF))
theorem apy:bR qM (bC (bC (bC (bP Tryz.f16) 0) 0) 0) abr:=lk (cx:=qM) (sh:=YS) (run:=fun n x=>M.yo x.1.2.2.2.2.2.2.1 x.1.2.2.2.2.2.2.2.1 x.1.2.2.2.2.2.2.2.2.1 x.1.2.2.2.2.2.2.2.2.2.1 x.1.2.2.2.2.2.2.2.2.2.2.1 x.1.2.2.2.2.2.2.2.2.2.2.2.1 x.1.2.2.2.2.2.2.2.2.2.2.2.2.1 x.1.2.2.2.2.2.2.2.2.2.2.2.2.2.1 x.2.1 x.2.2.2.2.1 x.2.2.2.2.2.2.2.1 x.2.2.2.2.2.2.2.2.1 x.2.2.2.2.2.2.2.2.2.1 n x.1.2.2.2.2.2.2.2.2.2.2.2.2.2.2.1 x.2.2.2.2.2.2.2.2.2.2.1) (bU:=apt) C2 (fun m x=>by kernel_rfl) (ah ⟨cf,fun _ _ _=>rfl⟩ aF)
theorem apz:bR qM (bC (bC (bP Tryz.f16) 0) 0) abt:=lk (cx:=qM) (sh:=G7) (run:=fun n x=>M.tU n x.1.2.2.2.2.2.2.1 x.1.2.2.2.2.2.2.2.1 x.1.2.2.2.2.2.2.2.2.1 x.1.2.2.2.2.2.2.2.2.2.1 x.1.2.2.2.2.2.2.2.2.2.2.1 x.1.2.2.2.2.2.2.2.2.2.2.2.1 x.2.1 x.2.2.2.2.1 x.2.2.2.2.2.2.2.1 x.2.2.2.2.2.2.2.2.1 x.2.2.2.2.2.2.2.2.2.1 x.2.2.2.2.2.2.2.2.2.2.1) (bU:=apv) C2 (fun m x=>by kernel_rfl) (ah ⟨cf,fun _ _ _=>rfl⟩ aF) (hl:=(ja 1 (by kernel_rfl) (jr (.mk (by kernel_rfl) apy))))
theorem apA:bR qM (bC (bP Tryz.f16) 0) abu:=lk (cx:=qM) (sh:=YU) (run:=fun n x=>M.yt n x.1.2.2.2.1 x.1.2.2.2.2.1 x.1.2.2.2.2.2.1 x.2.1 x.2.2.2.2.1 x.2.2.2.2.2.1) (bU:=Vd) C2 (fun m x=>by kernel_rfl) (ah ⟨dR,fun _ _ _=>rfl⟩ (ah ⟨cf,fun _ _ _=>rfl⟩ aF)) (hl:=(ja 1 (by kernel_rfl) (jr (.mk (by kernel_rfl) apz))))
theorem apB:bR qM (bC (bP Tryz.f16) 1) abv:=lk (cx:=qM) (sh:=YW) (run:=fun n x=>M.yu x.1.2.2.1 x.1.2.2.2.1 x.2.2.2.1 n x.1.2.2.2.2.1 x.2.2.2.2.1) (bU:=apx) C2 (fun m x=>by kernel_rfl) (ah ⟨cf,fun _ _ _=>rfl⟩ aF)
theorem apC:aB (abw (M.Bg)):=bw (cx:=qM) true C2 Tryz.func16 (hl2 apA apB) ⟨zs0,fun x=>x.1.1⟩ (fun x=>by kernel_rfl)
def M1(m:(List UInt8)->Option (M.aw×Int×Int)):aM K:={f:=6,sh:=zs1,R:=M.aw×Int×Int,run:=fun x=>m x.1.1,dflt:=default,out:=fun r=>(Sh.enc D (.bB [.el U.bD,iq0,iq0]) (r.1,(r.2.1,(r.2.2,()))),aU.encs D [] ())}
def abx:Cx K:=bK [(13,.aZ),(16,.plain)] [abo M.qd,abw M.Bg] []
theorem apD:ba abx:=bA aY _ (ah apq (ah apC aF))
theorem W9:aB (M1 (M.nQ)):=bw (cx:=abx) true apD Tryz.func6 hq ⟨Vh,fun x=>(x.1.1.1,x.1.1.2.1,x.1.1.2.2.1)⟩ (fun x=>by kernel_rfl)
def ML(m:M.ay->Option ((List UInt8)×M.ay)):aM K:={f:=83,sh:=oo,R:=(List UInt8)×M.ay,run:=fun x=>m x.2.1,dflt:=default,out:=fun r=>(Sh.enc D (.str) r.1,aU.encs D [.el U.dm] (r.2,()))}
def aby:Cx K:=bK [(52,.aZ),(118,.plain),(117,.aZ)] [wN M.lG,Zf M.CJ,Hu M.rE] []
theorem apE:ba aby:=bA aY _ (ah zd (ah anc (ah NB aF)))
theorem UU:aB (ML (M.tG)):=bw (cx:=aby) true apE Tryz.func83 hq ⟨Ni,fun x=>(x.1.1,x.2.1)⟩ (fun x=>by kernel_rfl)
def apF(y:(List M.af)×Int×Bool×(List M.aV)){R:Type}(k:KT R):R:=match y with|a0=>kk k (Ex.exit 0) YX (((),()),((a0.1,(a0.2.1,(a0.2.2.1,()))),((),(a0.2.2.2,()))))
def apG:List (cC K ((List M.af)×Int×Bool×(List M.aV))):=[⟨(Ex.exit 0),YX,fun x=>(x.2.1.1,x.2.1.2.1,x.2.1.2.2.1,x.2.2.2.1)⟩]
def abz:bQ K:=bV D false 35 2 [0,3] [3] YY (fun x=>M.nH ae x.2.1 x.2.2.2.1) apF
def abA(m:M.ay->Option ((List M.aV)×M.ay)):aM K:={f:=172,sh:=oo,R:=(List M.aV)×M.ay,run:=fun x=>m x.2.1,dflt:=default,out:=fun r=>(Sh.enc D (.ax U.d3) r.1,aU.encs D [.el U.dm] (r.2,()))}
def HS:Cx K:=bK [(81,.aZ),(84,.aZ),(82,.aZ),(152,.aZ),(176,.aZ)] [oq M.dE,mZ M.dJ,qE M.gh,kC M.tL,CN M.ko] [(5,abz)]
theorem abB:ba HS:=bA aY _ (ah pv (ah ot (ah sn (ah MI (ah FN aF)))))
theorem apH:bR HS (bC (bP Tryz.f172) 0) abz:=lk (cx:=HS) (sh:=YY) (run:=fun n x=>M.nH n x.2.1 x.2.2.2.1) (bU:=apG) abB (fun m x=>by kernel_rfl) (ah ⟨cf,fun _ _ _=>rfl⟩ aF)
theorem apI:aB (abA (M.A6)):=bw (cx:=HS) true abB Tryz.func172 (hl1 apH) ⟨⟨[.ax U.d3],[.el U.dm]⟩,fun x=>(x.1.1,x.2.1)⟩ (fun x=>by kernel_rfl)
def UB(m:(List UInt8)->M.ay->Option (M.ai×M.ay)):aM K:={f:=150,sh:=GX,R:=M.ai×M.ay,run:=fun x=>m x.1.2.1 x.2.1,dflt:=default,out:=fun r=>(Sh.enc D (.el U.Item) r.1,aU.encs D [.el U.dm] (r.2,()))}
def abC:Cx K:=bK [(84,.aZ),(81,.aZ),(172,.aZ),(152,.aZ)] [mZ M.dJ,oq M.dE,abA M.A6,kC M.tL] []
theorem apJ:ba abC:=bA aY _ (ah ot (ah pv (ah apI (ah MI aF))))
theorem ajd:aB (UB (M.A7)):=bw (cx:=abC) true apJ Tryz.func150 hq ⟨MH,fun x=>(x.1.1,x.2.1)⟩ (fun x=>by kernel_rfl)
def MF(m:M.ay->Option (M.aI×M.ay)):aM K:={f:=121,sh:=oo,R:=M.aI×M.ay,run:=fun x=>m x.2.1,dflt:=default,out:=fun r=>(Sh.enc D (.el U.Path) r.1,aU.encs D [.el U.dm] (r.2,()))}
def abD:Cx K:=bK [(82,.aZ),(84,.aZ),(83,.aZ)] [qE M.gh,mZ M.dJ,ML M.tG] []
theorem apK:ba abD:=bA aY _ (ah sn (ah ot (ah UU aF)))
theorem Uy:aB (MF (M.mh)):=bw (cx:=abD) true apK Tryz.func121 hq ⟨⟨[.el U.Path],[.el U.dm]⟩,fun x=>(x.1.1,x.2.1)⟩ (fun x=>by kernel_rfl)
def ai8(y:(List M.af)×Int×Bool×Int×(List UInt8)×Int×(List UInt8)×Bool×(List UInt8)×(List UInt8)×(List UInt8)×Int×(List UInt8)×Int×(List UInt8)×Bool×(List UInt8)×(List UInt8)×(List UInt8)×(List (List UInt8))×(List M.aa)×(List M.aV)×(List M.aX)×(List (List UInt8))×(List M.aa)×(List M.aV)×(List M.aX)){R:Type}(k:KT R):R:=match y with|a0=>kk k (Ex.exit 0) YZ (((),((),())),((a0.1,(a0.2.1,(a0.2.2.1,()))),((a0.2.2.2.1,(a0.2.2.2.2.1,(a0.2.2.2.2.2.1,(a0.2.2.2.2.2.2.1,((),((),((),(a0.2.2.2.2.2.2.2.1,(a0.2.2.2.2.2.2.2.2.1,(a0.2.2.2.2.2.2.2.2.2.1,(a0.2.2.2.2.2.2.2.2.2.2.1,((),())))))))))))),((a0.2.2.2.2.2.2.2.2.2.2.2.1,(a0.2.2.2.2.2.2.2.2.2.2.2.2.1,(a0.2.2.2.2.2.2.2.2.2.2.2.2.2.1,(a0.2.2.2.2.2.2.2.2.2.2.2.2.2.2.1,((),((),((),(a0.2.2.2.2.2.2.2.2.2.2.2.2.2.2.2.1,(a0.2.2.2.2.2.2.2.2.2.2.2.2.2.2.2.2.1,(a0.2.2.2.2.2.2.2.2.2.2.2.2.2.2.2.2.2.1,(a0.2.2.2.2.2.2.2.2.2.2.2.2.2.2.2.2.2.2.1,((),())))))))))))),((),((),((),((),((),((),((),((),(a0.2.2.2.2.2.2.2.2.2.2.2.2.2.2.2.2.2.2.2.1,(a0.2.2.2.2.2.2.2.2.2.2.2.2.2.2.2.2.2.2.2.2.1,(a0.2.2.2.2.2.2.2.2.2.2.2.2.2.2.2.2.2.2.2.2.2.1,(a0.2.2.2.2.2.2.2.2.2.2.2.2.2.2.2.2.2.2.2.2.2.2.1,(a0.2.2.2.2.2.2.2.2.2.2.2.2.2.2.2.2.2.2.2.2.2.2.2.1,(a0.2.2.2.2.2.2.2.2.2.2.2.2.2.2.2.2.2.2.2.2.2.2.2.2.1,(a0.2.2.2.2.2.2.2.2.2.2.2.2.2.2.2.2.2.2.2.2.2.2.2.2.2.1,(a0.2.2.2.2.2.2.2.2.2.2.2.2.2.2.2.2.2.2.2.2.2.2.2.2.2.2,()))))))))))))))))))))
def aja:List (cC K ((List M.af)×Int×Bool×Int×(List UInt8)×Int×(List UInt8)×Bool×(List UInt8)×(List UInt8)×(List UInt8)×Int×(List UInt8)×Int×(List UInt8)×Bool×(List UInt8)×(List UInt8)×(List UInt8)×(List (List UInt8))×(List M.aa)×(List M.aV)×(List M.aX)×(List (List UInt8))×(List M.aa)×(List M.aV)×(List M.aX))):=[⟨(Ex.exit 0),YZ,fun x=>(x.2.1.1,x.2.1.2.1,x.2.1.2.2.1,x.2.2.1.1,x.2.2.1.2.1,x.2.2.1.2.2.1,x.2.2.1.2.2.2.1,x.2.2.1.2.2.2.2.2.2.2.1,x.2.2.1.2.2.2.2.2.2.2.2.1,x.2.2.1.2.2.2.2.2.2.2.2.2.1,x.2.2.1.2.2.2.2.2.2.2.2.2.2.1,x.2.2.2.1.1,x.2.2.2.1.2.1,x.2.2.2.1.2.2.1,x.2.2.2.1.2.2.2.1,x.2.2.2.1.2.2.2.2.2.2.2.1,x.2.2.2.1.2.2.2.2.2.2.2.2.1,x.2.2.2.1.2.2.2.2.2.2.2.2.2.1,x.2.2.2.1.2.2.2.2.2.2.2.2.2.2.1,x.2.2.2.2.2.2.2.2.2.2.2.2.1,x.2.2.2.2.2.2.2.2.2.2.2.2.2.1,x.2.2.2.2.2.2.2.2.2.2.2.2.2.2.1,x.2.2.2.2.2.2.2.2.2.2.2.2.2.2.2.1,x.2.2.2.2.2.2.2.2.2.2.2.2.2.2.2.2.1,x.2.2.2.2.2.2.2.2.2.2.2.2.2.2.2.2.2.1,x.2.2.2.2.2.2.2.2.2.2.2.2.2.2.2.2.2.2.1,x.2.2.2.2.2.2.2.2.2.2.2.2.2.2.2.2.2.2.2.1)⟩]
