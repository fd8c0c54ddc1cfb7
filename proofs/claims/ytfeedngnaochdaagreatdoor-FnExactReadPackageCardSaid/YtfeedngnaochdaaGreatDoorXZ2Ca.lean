/-
  Part of the proof of the claim.
-/
import Derived.Test.YtfeedngnaochdaaGreatDoorXZ2M
import Derived.Test.YtfeedngnaochdaaGreatDoorXXHdA
import Derived.Test.YtfeedngnaochdaaGreatDoorXXHdI
import Derived.Test.YtfeedngnaochdaaGreatDoorXXHdV
import Derived.Test.YtfeedngnaochdaaGreatDoorXWgD
import Derived.Test.YtfeedngnaochdaaGreatDoorProg
set_option linter.unusedVariables false
set_option maxRecDepth 100000
open Go Go.Proofs
open Go.V
noncomputable section
abbrev iq0:Go.V.Sh Go.V.K:=.int .i64
abbrev iq2:=Go.V.aU Go.V.K
abbrev zs0:iq2:=⟨[.bool],[]⟩
abbrev zs1:iq2:=⟨[.any],[]⟩
abbrev zs2:iq2:=⟨[.str],[]⟩
abbrev gw:iq2:=⟨[iq0],[]⟩
abbrev Q8:iq2:=⟨[.any,iq0],[]⟩
abbrev Q9:iq2:=⟨[iq0,.any],[]⟩
abbrev l4:iq2:=⟨[.ptr 0 0],[.el U.cM]⟩
abbrev pG:iq2:=⟨[.str,iq0],[]⟩
abbrev pH:iq2:=⟨[.str,iq0,iq0],[]⟩
abbrev qX:iq2:=⟨[.ptr 0 0],[.el U.parser]⟩
abbrev BS:iq2:=⟨[],[.box [.ax U.Token,iq0,.bool],.box [.ptr 0 0],.box [iq0,.str,iq0,.str,.own 7,.own 8,.own 9,.bool,.str,.str,.str,.own 10],.dead,.dead,.dead,.dead,.arr U.str,.tree U.Term,.tree U.df,.arr U.du]⟩
abbrev wk:iq2:=⟨[.int .u8],[]⟩
abbrev wm:iq2:=⟨[.ptr 0 0],[.box [.str,iq0,iq0,.own 2],.dead,.arr U.Token]⟩
abbrev wo:iq2:=⟨[.str],[.el U.parser]⟩
abbrev CE:iq2:=⟨[.ax U.str,iq0,iq0],[]⟩
abbrev CG:iq2:=⟨[],[.box [.str,iq0,iq0,.own 2],.dead,.arr U.Token]⟩
abbrev CH:iq2:=⟨[.ax U.str],[]⟩
abbrev CJ:iq2:=⟨[.ptr 0 0,.str],[.el U.cM]⟩
abbrev BV:iq2:=⟨[.ptr 0 0,.str],[.el U.parser]⟩
abbrev CL:iq2:=⟨[.ptr 0 0,.own 6,.own 7,.ptr 3 0,.own 8,.own 9,.ax U.cE,iq0,iq0,.ax U.Item,iq0,iq0],[.el U.dw,.dead,.dead,.el U.cE,.dead,.dead,.arr U.str,.arr U.str,.arr U.str,.arr U.str]⟩
abbrev Rb:iq2:=⟨[.any,.any,.any,.bool],[.dead,.dead,.dead,.dead,.dead]⟩
abbrev Re:iq2:=⟨[.ptr 0 0,.own 3,.own 4,.any],[.el U.dw,.dead,.dead,.arr U.str,.arr U.str]⟩
abbrev CM:iq2:=⟨[.own 3,.own 4],[.dead,.dead,.dead,.arr U.str,.arr U.str]⟩
abbrev CN:iq2:=⟨[.ptr 0 0,.own 3,.own 4,iq0],[.el U.dw,.dead,.dead,.arr U.str,.arr U.str]⟩
abbrev BM:iq2:=⟨[],[.box [.ax U.Token,iq0,.bool],.box [iq0,.str,.own 6,.own 7],.box [.ptr 0 0],.box [iq0],.dead,.dead,.arr U.str,.tree U.Term]⟩
abbrev BP:iq2:=⟨[],[.box [.ax U.Token,iq0,.bool],.box [.ptr 0 0],.box [iq0,.str,.own 7,.own 8],.box [.fn 117 [.ptr 2 0,.ptr 1 0,.ptr 6 0]],.dead,.dead,.box [iq0],.arr U.str,.tree U.Term]⟩
abbrev BX:iq2:=⟨[.ptr 0 0,.ptr 1 0,.ptr 2 0],[.el U.parser,.box [.str,.own 5],.box [.str,.own 6],.dead,.dead,.tree U.Item,.tree U.Item]⟩
abbrev BZ:iq2:=⟨[.ptr 0 0,.ptr 1 0,.ptr 2 0],[.el U.parser,.box [.str,.own 5],.box [.str,.own 6],.dead,.dead,.arr U.dR,.arr U.dR]⟩
abbrev H3:iq2:=⟨[iq0],[.arr U.str]⟩
abbrev H4:iq2:=⟨[.ax U.str,iq0],[]⟩
abbrev H5:iq2:=⟨[.bk []],[.el U.cM]⟩
abbrev H6:iq2:=⟨[.str],[.el U.cM]⟩
abbrev H7:iq2:=⟨[.el U.Item],[.el U.cM]⟩
abbrev HE:iq2:=⟨[.bk []],[.el U.parser,.box [iq0,.str,.own 6,.own 7],.box [.ptr 0 0],.box [iq0],.dead,.dead,.arr U.str,.tree U.Term]⟩
abbrev HO:iq2:=⟨[iq0],[.tree U.Term]⟩
abbrev HS:iq2:=⟨[iq0],[.tree U.df]⟩
abbrev HT:iq2:=⟨[iq0],[.arr U.du]⟩
abbrev HU:iq2:=⟨[iq0],[.tree U.Item]⟩
abbrev HV:iq2:=⟨[iq0],[.tree U.cE]⟩
abbrev HW:iq2:=⟨[iq0],[.arr U.dR]⟩
abbrev HY:iq2:=⟨[iq0],[.tree U.cZ]⟩
abbrev Rf:iq2:=⟨[.ax U.str,.ax U.str,iq0],[]⟩
abbrev Rh:iq2:=⟨[.any,.any,.any,.any,iq0],[]⟩
abbrev Ri:iq2:=⟨[.str,iq0,iq0,iq0,.any],[]⟩
abbrev Rj:iq2:=⟨[.str,iq0,iq0,iq0,iq0],[]⟩
abbrev Rk:iq2:=⟨[iq0,.ax U.str,iq0,iq0],[]⟩
abbrev Rl:iq2:=⟨[.ax U.str,.str,iq0,iq0],[]⟩
abbrev Rm:iq2:=⟨[.own 0,iq0,iq0],[.arr U.str]⟩
abbrev Rn:iq2:=⟨[.any,.any,iq0,iq0],[]⟩
abbrev Ro:iq2:=⟨[iq0,iq0,.any,.any],[]⟩
abbrev Rq:iq2:=⟨[.any,.any,.own 2,iq0,iq0],[.dead,.dead,.arr U.Token]⟩
abbrev Rr:iq2:=⟨[.own 1,iq0,.any,.any,.any],[.dead,.arr U.Token]⟩
abbrev Rt:iq2:=⟨[.str,.own 1,iq0,iq0],[.dead,.arr U.Token]⟩
abbrev Ru:iq2:=⟨[.bk [.ax U.Token,iq0,iq0]],[]⟩
abbrev Rw:iq2:=⟨[.any,.cP,iq0,iq0],[.dead,.dead,.dead]⟩
abbrev Rx:iq2:=⟨[.ptr 0 0,.any,.any,.any],[.box [.str,iq0,iq0,.own 2],.dead,.arr U.Token]⟩
abbrev Ry:iq2:=⟨[.str,.ptr 0 0],[.box [.str,iq0,iq0,.own 2],.dead,.arr U.Token]⟩
abbrev Rz:iq2:=⟨[.str,.own 1,iq0],[.dead,.arr U.str]⟩
abbrev RD:iq2:=⟨[],[.box [.ax U.Token,iq0,.bool],.box [iq0,.str,.own 4,.own 5],.dead,.dead,.arr U.str,.arr U.Term]⟩
abbrev RE:iq2:=⟨[.ptr 0 0,.ptr 1 0,iq0],[.el U.cM,.box [iq0,.str,.own 4,.own 5],.dead,.dead,.arr U.str,.arr U.Term]⟩
abbrev RF:iq2:=⟨[.ptr 1 0,.ptr 2 0],[.box [.ax U.Token,iq0,.bool],.box [iq0,.str,.own 7,.own 8],.box [iq0,.str,.own 9,.own 10],.dead,.dead,.dead,.dead,.arr U.str,.arr U.Term,.arr U.str,.arr U.Term]⟩
abbrev RG:iq2:=⟨[.ptr 0 0,iq0,.ptr 1 0,.ptr 2 0],[.el U.cM,.box [iq0,.str,.own 7,.own 8],.box [iq0,.str,.own 9,.own 10],.dead,.dead,.dead,.dead,.arr U.str,.arr U.Term,.arr U.str,.arr U.Term]⟩
abbrev RH:iq2:=⟨[.ptr 0 0,.own 6,.own 7,.ptr 3 0,.own 8,.own 9,.ax U.cE,iq0,iq0,.ax U.Item,iq0,iq0,.ax U.du,iq0,iq0],[.el U.dw,.dead,.dead,.el U.cE,.dead,.dead,.arr U.str,.arr U.str,.arr U.str,.arr U.str]⟩
abbrev RI:iq2:=⟨[.ptr 0 0,.own 6,.own 7,.ptr 3 0,.own 8,.own 9,.ax U.cE,iq0,iq0],[.el U.dw,.dead,.dead,.el U.cE,.dead,.dead,.arr U.str,.arr U.str,.arr U.str,.arr U.str]⟩
abbrev RJ:iq2:=⟨[.ptr 0 0,.own 3,.own 4,.ax U.cE,iq0,iq0],[.el U.dw,.dead,.dead,.arr U.str,.arr U.str]⟩
abbrev RL:iq2:=⟨[.own 2,.own 3],[.dead,.dead,.arr U.str,.arr U.str]⟩
abbrev RN:iq2:=⟨[.own 2,.own 3,.ax U.cZ,iq0,iq0],[.dead,.dead,.arr U.str,.arr U.str]⟩
abbrev RO:iq2:=⟨[.own 2],[.box [.ax U.Token,iq0,.bool],.dead,.arr U.df]⟩
abbrev RP:iq2:=⟨[.ptr 0 0,.own 2],[.el U.cM,.dead,.arr U.df]⟩
abbrev RQ:iq2:=⟨[.ptr 1 0,.ptr 2 0],[.box [.ax U.Token,iq0,.bool],.box [iq0,.str,iq0,.str,.own 11,.own 12,.own 13,.bool,.str,.str,.str,.own 14],.box [iq0,.str,iq0,.str,.own 15,.own 16,.own 17,.bool,.str,.str,.str,.own 18],.dead,.dead,.dead,.dead,.dead,.dead,.dead,.dead,.arr U.str,.arr U.Term,.arr U.df,.arr U.du,.arr U.str,.arr U.Term,.arr U.df,.arr U.du]⟩
abbrev RR:iq2:=⟨[.ptr 0 0,.ptr 1 0,.ptr 2 0],[.el U.cM,.box [iq0,.str,iq0,.str,.own 11,.own 12,.own 13,.bool,.str,.str,.str,.own 14],.box [iq0,.str,iq0,.str,.own 15,.own 16,.own 17,.bool,.str,.str,.str,.own 18],.dead,.dead,.dead,.dead,.dead,.dead,.dead,.dead,.arr U.str,.arr U.Term,.arr U.df,.arr U.du,.arr U.str,.arr U.Term,.arr U.df,.arr U.du]⟩
abbrev RS:iq2:=⟨[.ptr 1 0,.ptr 2 0],[.box [.ax U.Token,iq0,.bool],.box [.str,.own 5],.box [.str,.own 6],.dead,.dead,.arr U.Item,.arr U.Item]⟩
abbrev RU:iq2:=⟨[.ptr 0 0,.ptr 1 0,.ptr 2 0],[.el U.cM,.box [.str,.own 5],.box [.str,.own 6],.dead,.dead,.arr U.Item,.arr U.Item]⟩
abbrev RV:iq2:=⟨[.ptr 0 0,.ptr 1 0,.ptr 2 0,.ptr 3 0],[.el U.cM,.box [.str,.own 6],.box [.str,.own 7],.el U.dR,.dead,.dead,.arr U.dR,.arr U.dR]⟩
abbrev RX:iq2:=⟨[.ptr 0 0,.ptr 1 0,.ptr 2 0,.ptr 3 0,iq0],[.el U.cM,.box [.str,.own 6],.box [.str,.own 7],.el U.dR,.dead,.dead,.arr U.dR,.arr U.dR]⟩
abbrev RY:iq2:=⟨[.ptr 1 0,.ptr 2 0],[.box [.ax U.Token,iq0,.bool],.box [.str,.own 5],.box [.str,.own 6],.dead,.dead,.arr U.dR,.arr U.dR]⟩
abbrev RZ:iq2:=⟨[.ptr 0 0,.ptr 1 0,.ptr 2 0],[.el U.cM,.box [.str,.own 5],.box [.str,.own 6],.dead,.dead,.arr U.dR,.arr U.dR]⟩
abbrev R7:iq2:=⟨[.ptr 1 0,.ptr 2 0],[.box [.ax U.Token,iq0,.bool],.box [.str,.str,.own 7,.own 8],.box [.str,.str,.own 9,.own 10],.dead,.dead,.dead,.dead,.arr U.cE,.arr U.cZ,.arr U.cE,.arr U.cZ]⟩
abbrev R9:iq2:=⟨[.ptr 0 0,.ptr 1 0,.ptr 2 0],[.el U.cM,.box [.str,.str,.own 7,.own 8],.box [.str,.str,.own 9,.own 10],.dead,.dead,.dead,.dead,.arr U.cE,.arr U.cZ,.arr U.cE,.arr U.cZ]⟩
abbrev Si:iq2:=⟨[.ptr 0 0,.own 4,.own 5,iq0],[.el U.cE,.dead,.dead,.dead,.arr U.str,.arr U.str]⟩
abbrev Sj:iq2:=⟨[.ptr 0 0,.own 4,.own 5,iq0,.ptr 3 0,iq0],[.el U.cE,.dead,.dead,.el U.Item,.arr U.str,.arr U.str]⟩
abbrev Sl:iq2:=⟨[.ptr 0 0,.own 3,.own 4,iq0],[.el U.cE,.dead,.dead,.arr U.str,.arr U.str]⟩
abbrev NK:iq2:=⟨[.bk [.el U.dw,iq0,iq0]],[]⟩
abbrev NP:iq2:=⟨[.ax U.Term,.ax U.Term,iq0],[]⟩
abbrev N1:iq2:=⟨[.ax U.df,.ax U.df,iq0],[]⟩
abbrev N7:iq2:=⟨[.ax U.du,.ax U.du,iq0],[]⟩
abbrev Of:iq2:=⟨[.ax U.Item,.ax U.Item,iq0],[]⟩
abbrev Om:iq2:=⟨[.ax U.cE,.ax U.cE,iq0],[]⟩
abbrev Ov:iq2:=⟨[.ax U.dR,.ax U.dR,iq0],[]⟩
abbrev OC:iq2:=⟨[.ax U.cZ,.ax U.cZ,iq0],[]⟩
abbrev OJ:iq2:=⟨[.ptr 0 0,iq0,.fn 117 [.ptr 1 0,.ptr 2 0,.ptr 3 0],iq0],[.el U.parser,.box [iq0,.str,.own 6,.own 7],.box [.ptr 0 0],.box [iq0],.dead,.dead,.arr U.str,.tree U.Term]⟩
abbrev OM:iq2:=⟨[],[.box [iq0,.str,.own 3,.own 4],.dead,.dead,.arr U.str,.tree U.Term]⟩
abbrev OO:iq2:=⟨[.ptr 0 0],[.box [iq0,.str,.own 3,.own 4],.dead,.dead,.arr U.str,.tree U.Term]⟩
abbrev OQ:iq2:=⟨[.ptr 0 0,.ptr 1 0,.fn 117 [.ptr 1 0,.ptr 2 0,.ptr 3 0]],[.el U.parser,.box [iq0,.str,.own 4,.own 5],.box [.ptr 0 0],.box [iq0],.arr U.str,.tree U.Term]⟩
abbrev OX:iq2:=⟨[.ptr 0 0,iq0,.fn 119 [.ptr 1 0,.ptr 2 0,.ptr 3 0],iq0],[.el U.parser,.box [.ptr 0 0],.box [iq0,.str,.own 7,.own 8],.box [.fn 117 [.ptr 2 0,.ptr 1 0,.ptr 6 0]],.dead,.dead,.box [iq0],.arr U.str,.tree U.Term]⟩
abbrev O6:iq2:=⟨[.ptr 0 0,.ptr 1 0],[.box [.ptr 2 0],.box [iq0,.str,iq0,.str,.own 3,.own 4,.own 5,.bool,.str,.str,.str,.own 6],.box [.ax U.Token,iq0,.bool],.arr U.str,.tree U.Term,.tree U.df,.arr U.du]⟩
abbrev O8:iq2:=⟨[.bk []],[.box [.ptr 2 0],.box [iq0,.str,iq0,.str,.own 7,.own 8,.own 9,.bool,.str,.str,.str,.own 10],.box [.ax U.Token,iq0,.bool],.dead,.dead,.dead,.dead,.arr U.str,.tree U.Term,.tree U.df,.arr U.du]⟩
abbrev Ph:iq2:=⟨[.ptr 0 0,iq0,.fn 112 [.ptr 1 0,.ptr 2 0],iq0],[.el U.parser,.box [.ptr 0 0],.box [iq0,.str,iq0,.str,.own 7,.own 8,.own 9,.bool,.str,.str,.str,.own 10],.dead,.dead,.dead,.dead,.arr U.str,.tree U.Term,.tree U.df,.arr U.du]⟩
abbrev Pm:iq2:=⟨[.bk []],[.el U.parser,.box [.ptr 0 0],.box [iq0,.str,iq0,.str,.own 7,.own 8,.own 9,.bool,.str,.str,.str,.own 10],.dead,.dead,.dead,.dead,.arr U.str,.tree U.Term,.tree U.df,.arr U.du]⟩
abbrev Pq:iq2:=⟨[.agg [iq0,.str,iq0,.str,.own 1,.own 2,.own 3,.bool,.str,.str,.str,.own 4]],[.el U.parser,.arr U.str,.tree U.Term,.tree U.df,.arr U.du]⟩
abbrev Pz:iq2:=⟨[.ptr 0 0,iq0,.fn 94 [.ptr 1 0,.ptr 2 0],iq0],[.el U.parser,.box [.ptr 0 0],.box [iq0,.str,iq0,.str,.own 7,.own 8,.own 9,.bool,.str,.str,.str,.own 10],.dead,.dead,.dead,.dead,.arr U.str,.tree U.Term,.tree U.df,.arr U.du]⟩
abbrev PQ:iq2:=⟨[.ptr 1 0,.ptr 2 0],[.box [.ax U.Token,iq0,.bool],.box [.str,.str,.own 7,.own 8],.box [.str,.str,.own 9,.own 10],.dead,.dead,.dead,.dead,.tree U.cE,.tree U.cZ,.tree U.cE,.tree U.cZ]⟩
abbrev PT:iq2:=⟨[.ptr 0 0,.ptr 1 0,.ptr 2 0],[.el U.parser,.box [.str,.str,.own 7,.own 8],.box [.str,.str,.own 9,.own 10],.dead,.dead,.dead,.dead,.tree U.cE,.tree U.cZ,.tree U.cE,.tree U.cZ]⟩
abbrev P6:iq2:=⟨[.own 0,iq0,iq0],[.tree U.Term]⟩
abbrev Qb:iq2:=⟨[.own 0,iq0,iq0],[.tree U.df]⟩
abbrev Qf:iq2:=⟨[.own 0,iq0,iq0],[.arr U.du]⟩
abbrev Qj:iq2:=⟨[.own 0,iq0,iq0],[.tree U.Item]⟩
abbrev Qn:iq2:=⟨[.own 0,iq0,iq0],[.tree U.cE]⟩
abbrev Qr:iq2:=⟨[.own 0,iq0,iq0],[.arr U.dR]⟩
abbrev Qw:iq2:=⟨[.own 0,iq0,iq0],[.tree U.cZ]⟩
abbrev QC:iq2:=⟨[.ax U.Term,iq0,iq0],[]⟩
abbrev QH:iq2:=⟨[.ax U.df,iq0,iq0],[]⟩
abbrev QL:iq2:=⟨[.ax U.du,iq0,iq0],[]⟩
abbrev QP:iq2:=⟨[.ax U.Item,iq0,iq0],[]⟩
abbrev QT:iq2:=⟨[.ax U.cE,iq0,iq0],[]⟩
abbrev QX:iq2:=⟨[.ax U.dR,iq0,iq0],[]⟩
abbrev Q1:iq2:=⟨[.ax U.cZ,iq0,iq0],[]⟩
def H8:Go.TypeId->Option U:=dP [(2,U.i64),(3,U.i64),(4,U.bool),(5,U.u8),(6,U.u8),(9,U.str),(10,U.str),(11,U.str),(12,U.u64),(21,U.i32),(22,U.tz),(23,U.tJ),(25,U.dw),(41,U.tG),(46,U.cM),(48,U.Token),(51,U.parser),(54,U.tA),(56,U.cE),(58,U.tK),(60,U.cZ),(62,U.tL),(63,U.tB),(65,U.Term),(66,U.tD),(68,U.Path),(69,U.tH),(71,U.Item),(73,U.du),(88,U.lC),(94,U.dR),(103,U.tM),(124,U.df),(136,U.u64),(153,U.i64),(161,U.u32),(163,U.u64),(172,U.u64),(181,U.i64),(221,U.u8),(222,U.u8),(224,U.i32),(225,U.i32)]
def aei:Go.TypeId->List (Option U):=ef [] [(22,[some U.cE]),(23,[some U.cZ]),(25,[none,none,some U.cE,some U.cZ]),(41,[some U.Token]),(46,[some U.Token,none,none]),(51,[some U.Token,none,none]),(54,[some U.Item]),(56,[none,some U.Item]),(58,[some U.dR]),(60,[none,some U.dR]),(62,[some U.str]),(63,[some U.Term]),(65,[none,none,some U.str,some U.Term]),(66,[some U.df]),(69,[some U.du]),(71,[none,none,none,none,some U.str,some U.Term,some U.df,none,none,none,none,some U.du]),(88,[none,none,none,some U.Token]),(103,[some U.u8]),(124,[none,none,none,some U.str,some U.Term])]
theorem dT:Tryz.prog.follows .mixedOrders=true:=by kernel_rfl
abbrev aJ(c:aP K):Prop:=c.Ok D Tryz.prog
abbrev KT(R:Type):=Ex->List (AV K)->List (Ob K)->R
def kk{R:Type}(k:KT R)(e:Ex)(s:aU K)(v:s.T):R:=k e (aU.kF D s v) (aU.lr D s v)
def cB(f:FuncId)(sh:aU K)(run:sh.T->Option Bool):aP K:={f:=f,sh:=sh,R:=Bool,run:=run,dflt:=default,out:=fun r=>(Sh.enc D (.bool) r,aR.encs D [] ())}
def cI(f:FuncId)(sh:aU K)(run:sh.T->Option Int):aP K:={f:=f,sh:=sh,R:=Int,run:=run,dflt:=default,out:=fun r=>(Sh.enc D (.int .i64) r,aR.encs D [] ())}
def cS(f:FuncId)(sh:aU K)(run:sh.T->Option (List UInt8)):aP K:={f:=f,sh:=sh,R:=List UInt8,run:=run,dflt:=default,out:=fun r=>(Sh.enc D (.str) r,aR.encs D [] ())}
def eE:Cx K:={P:=Tryz.prog,D:=D,ty:=H8,mg:=aei,mode:=ef .plain [],call:=callOf D [],loop:=dP []}
def bS(m:List (FuncId×Go.V.Mode))(c:List (aP K))(l:List (Nat×bZ K)):Cx K:={eE with mode:=ef .plain m,call:=callOf D c,loop:=dP l}
theorem hq{cx:Cx K}{fn:Func}(h:(iQ (bX fn)).length=0:=by kernel_rfl):∀c,fn.body=some c->gp cx c:=F4 (fP h)
theorem hl1{cx:Cx K}{fn:Func}{L:bZ K}(o:b9 cx (bR (bX fn) 0) L)(h:(iQ (bX fn)).length=1:=by kernel_rfl)(k:cx.loop (keyOf (bR (bX fn) 0))=some L:=by kernel_rfl):∀c,fn.body=some c->gp cx c:=F4 (nt 1 h (oP (.mk k o)))
theorem hl2{cx:Cx K}{fn:Func}{L M:bZ K}(o:b9 cx (bR (bX fn) 0) L)(p:b9 cx (bR (bX fn) 1) M)(h:(iQ (bX fn)).length=2:=by kernel_rfl)(k:cx.loop (keyOf (bR (bX fn) 0))=some L:=by kernel_rfl)(l:cx.loop (keyOf (bR (bX fn) 1))=some M:=by kernel_rfl):∀c,fn.body=some c->gp cx c:=F4 (nt 2 h (lt_succ (oP (.mk k o)) (.mk l p)))
theorem lk{cx:Cx K}{c:Code}{n n0:Nat}{ins outs:List Nat}{sh:aU K}{Y:Type}{run:Nat->sh.T->Option Y}{cg:List (dc K Y)}{out:Y->{R:Type}->(Ex->List (AV K)->List (Ob K)->R)->R}(hc:aZ cx)(hs:∀m x,fw cx c (sn cx.D n ins sh x) (FW cx n n0 ins outs sh (run m) (vo cx.D cg))=run (m+1) x)(hx:∀d∈cg,d.e≠.normal/\∀x (R:Type) (k:Ex->List (AV K)->List (Ob K)->R),out (d.conv x) k=k d.e (d.sh.kF cx.D x) (d.sh.lr cx.D x))(hl:gp cx c:=by exact fP (by kernel_rfl))(hD:bu cx.D:=by exact aQ)(hm:cx.P.follows .mixedOrders=true:=by exact dT)(h0:∀x,run 0 x=none:=by exact fun _=>rfl):b9 cx c (cr cx.D false n n0 ins outs sh (run ai) out):=fS hD hc hm hl h0 hs hx false ai
theorem bj{cx:Cx K}(fz:Bool)(hc:aZ cx){c:aP K}{fn:Func}(hg:cx.P.funcs[c.f]?=some fn)(hl:∀b,fn.body=some b->gp cx b)(d:xB K cx.D c.R)(he:∀x,AS cx fz fn (c.sh.kF cx.D x) (c.sh.lr cx.D x) d.fin=c.run x)(hD:bu cx.D:=by exact aQ)(hm:cx.P.follows .mixedOrders=true:=by exact dT)(hn:(fn.name== "runtime.NumGoroutine")=false:=by kernel_rfl)(ho:∀x,([(c.out (d.conv x)).1],(c.out (d.conv x)).2)=(d.sh.kF cx.D x,d.sh.lr cx.D x):=by exact fun x=>rfl):c.Ok cx.D cx.P:=jC hD hc hm ⟨hg,hn⟩ hl d ho he
def H9(m:Int->Option Bool):aP K:=cB 85 wk (fun x=>m x.1.1)
def iC:Cx K:=bS [] [] []
theorem iZ:aZ iC:=bm aQ _ aI
theorem Sm:aJ (H9 (M.Ia)):=bj (cx:=iC) true iZ Tryz.func85 hq ⟨zs0,fun x=>x.1.1⟩ (fun x=>by kernel_rfl)
def Ib(m:Int->Option Bool):aP K:=cB 87 wk (fun x=>m x.1.1)
theorem Sr:aJ (Ib (M.Ic)):=bj (cx:=iC) true iZ Tryz.func87 hq ⟨zs0,fun x=>x.1.1⟩ (fun x=>by kernel_rfl)
def mQ(y:Bool⊕Unit){R:Type}(k:KT R):R:=match y with|.inl a0=>kk k Ex.ret zs0 ((a0,()),())|.inr a1=>kk k (Ex.exit 0) zs1 (((),()),())
def mR:List (dc K ((Bool)⊕Unit)):=[⟨Ex.ret,zs0,fun x=>.inl x.1.1⟩,⟨(Ex.exit 0),zs1,fun x=>.inr (())⟩]
def Ss:bZ K:=cr D false 26 0 [0,1,5] [4] Rf (fun x=>M.ua x.1.1 x.1.2.1 ai x.1.2.2.1) mQ
def NT(m:(List (List UInt8))->(List (List UInt8))->Option Bool):aP K:=cB 152 ⟨[.ax U.str,.ax U.str],[]⟩ (fun x=>m x.1.1 x.1.2.1)
def CO:Cx K:=bS [] [] [(4,Ss)]
theorem Su:aZ CO:=bm aQ _ aI
theorem aej:b9 CO (bR (bX Tryz.f152) 0) Ss:=lk (cx:=CO) (sh:=Rf) (run:=fun n x=>M.ua x.1.1 x.1.2.1 n x.1.2.2.1) (cg:=mR) Su (fun m x=>by kernel_rfl) (ah ⟨ee,fun _ _ _=>rfl⟩ (ah ⟨cw,fun _ _ _=>rfl⟩ aI))
theorem ab8:aJ (NT (M.y9)):=bj (cx:=CO) true Su Tryz.func152 (hl1 aej) ⟨zs0,fun x=>x.1.1⟩ (fun x=>by kernel_rfl)
def Sv(m:Int->Int->Int->Option Bool):aP K:=cB 128 ⟨[iq0,iq0,iq0],[]⟩ (fun x=>m x.1.1 x.1.2.1 x.1.2.2.1)
theorem aek:aJ (Sv (M.Sz)):=bj (cx:=iC) true iZ Tryz.func128 hq ⟨zs0,fun x=>x.1.1⟩ (fun x=>by kernel_rfl)
def SA:bZ K:=cr D false 69 0 [0,3] [2] pG (fun x=>M.tu x.1.1 ai x.1.2.1) mQ
def SB(m:(List UInt8)->Option Bool):aP K:=cB 100 zs2 (fun x=>m x.1.1)
def CP:Cx K:=bS [] [] [(4,SA)]
theorem SC:aZ CP:=bm aQ _ aI
theorem ael:b9 CP (bR (bX Tryz.f100) 0) SA:=lk (cx:=CP) (sh:=pG) (run:=fun n x=>M.tu x.1.1 n x.1.2.1) (cg:=mR) SC (fun m x=>by kernel_rfl) (ah ⟨ee,fun _ _ _=>rfl⟩ (ah ⟨cw,fun _ _ _=>rfl⟩ aI))
theorem aem:aJ (SB (M.yV)):=bj (cx:=CP) true SC Tryz.func100 (hl1 ael) ⟨zs0,fun x=>x.1.1⟩ (fun x=>by kernel_rfl)
def SD(m:Int->Int->Int->Option Bool):aP K:=cB 111 ⟨[iq0,iq0,iq0],[]⟩ (fun x=>m x.1.1 x.1.2.1 x.1.2.2.1)
theorem aen:aJ (SD (M.SE)):=bj (cx:=iC) true iZ Tryz.func111 hq ⟨zs0,fun x=>x.1.1⟩ (fun x=>by kernel_rfl)
def aeo(y:Bool⊕((List UInt8))){R:Type}(k:KT R):R:=match y with|.inl a0=>kk k Ex.ret ⟨[.any,.bool],[]⟩ (((),(a0,())),())|.inr a1=>kk k (Ex.exit 0) ⟨[.str,.any],[]⟩ ((a1,((),())),())
def aep:List (dc K ((Bool)⊕((List UInt8)))):=[⟨Ex.ret,⟨[.any,.bool],[]⟩,fun x=>.inl x.1.2.1⟩,⟨(Ex.exit 0),⟨[.str,.any],[]⟩,fun x=>.inr (x.1.1)⟩]
def SG:bZ K:=cr D false 75 0 [0,7,8] [0,2] pH (fun x=>M.qU x.1.1 x.1.2.1 ai x.1.2.2.1) aeo
def Ie(m:(List UInt8)->Option Bool):aP K:=cB 53 zs2 (fun x=>m x.1.1)
def CQ:Cx K:=bS [] [] [(2,SG)]
theorem SH:aZ CQ:=bm aQ _ aI
theorem aeq:b9 CQ (bR (bX Tryz.f53) 0) SG:=lk (cx:=CQ) (sh:=pH) (run:=fun n x=>M.qU x.1.1 x.1.2.1 n x.1.2.2.1) (cg:=aep) SH (fun m x=>by kernel_rfl) (ah ⟨ee,fun _ _ _=>rfl⟩ (ah ⟨cw,fun _ _ _=>rfl⟩ aI))
theorem SI:aJ (Ie (M.tq)):=bj (cx:=CQ) true SH Tryz.func53 (hl1 aeq) ⟨zs0,fun x=>x.1.1⟩ (fun x=>by kernel_rfl)
def aer(y:Int⊕((List UInt8)×Int×Int×Int)){R:Type}(k:KT R):R:=match y with|.inl a0=>kk k Ex.ret Rh (((),((),((),((),(a0,()))))),())|.inr a1=>kk k (Ex.exit 0) Ri ((a1.1,(a1.2.1,(a1.2.2.1,(a1.2.2.2,((),()))))),())
def aes:List (dc K ((Int)⊕((List UInt8)×Int×Int×Int))):=[⟨Ex.ret,Rh,fun x=>.inl x.1.2.2.2.2.1⟩,⟨(Ex.exit 0),Ri,fun x=>.inr ((x.1.1,x.1.2.1,x.1.2.2.1,x.1.2.2.2.1))⟩]
def SJ:bZ K:=cr D false 71 0 [0,3,4,5,6] [0,3,4,5,2] Rj (fun x=>M.nM x.1.1 ai x.1.2.1 x.1.2.2.1 x.1.2.2.2.1 x.1.2.2.2.2.1) aer
def ub(m:Int->Option ((List UInt8))):aP K:=cS 156 gw (fun x=>m x.1.1)
def SK(l5:Int->Option ((List UInt8))):Cx K:=bS [(156,.plain)] [ub l5] []
theorem aet(l5:Int->Option ((List UInt8)))(Ig:aJ (ub l5)):aZ (SK l5):=bm aQ _ (ah Ig aI)
theorem aeu(l5:Int->Option ((List UInt8)))(Ig:aJ (ub l5)):aJ (ub (M.v8 l5)):=jC (cx:=SK l5) (fz:=true) aQ (aet l5 Ig) dT ⟨Tryz.func156,by kernel_rfl⟩ hq ⟨zs2,fun x=>x.1.1⟩ (fun x=>rfl) (fun x=>by kernel_rfl)
theorem SL:∀n,aJ (ub (M.nL n))|0=>vq fun _=>rfl|n+1=>aeu (M.nL n) (SL n)
theorem aev:aJ (ub (M.tw)):=SL ai
def SN(m:Int->Option ((List UInt8))):aP K:=cS 129 gw (fun x=>m x.1.1)
def SO:Cx K:=bS [(156,.plain)] [ub M.tw] []
theorem aew:aZ SO:=bm aQ _ (ah aev aI)
theorem aex:aJ (SN (M.yY)):=bj (cx:=SO) true aew Tryz.func129 hq ⟨zs2,fun x=>x.1.1⟩ (fun x=>by kernel_rfl)
def SQ(m:(List UInt8)->Option Int):aP K:=cI 101 zs2 (fun x=>m x.1.1)
def CS:Cx K:=bS [(128,.plain),(129,.plain)] [Sv M.Sz,SN M.yY] [(3,SJ)]
theorem SR:aZ CS:=bm aQ _ (ah aek (ah aex aI))
theorem aey:b9 CS (bR (bX Tryz.f101) 0) SJ:=lk (cx:=CS) (sh:=Rj) (run:=fun n x=>M.nM x.1.1 n x.1.2.1 x.1.2.2.1 x.1.2.2.2.1 x.1.2.2.2.2.1) (cg:=aes) SR (fun m x=>by kernel_rfl) (ah ⟨ee,fun _ _ _=>rfl⟩ (ah ⟨cw,fun _ _ _=>rfl⟩ aI))
theorem aez:aJ (SQ (M.y5)):=bj (cx:=CS) true SR Tryz.func101 (hl1 aey) ⟨gw,fun x=>x.1.1⟩ (fun x=>by kernel_rfl)
def SS(m:(List UInt8)->Option Bool):aP K:=cB 78 zs2 (fun x=>m x.1.1)
def SU:Cx K:=bS [(101,.plain)] [SQ M.y5] []
theorem aeA:aZ SU:=bm aQ _ (ah aez aI)
theorem aeB:aJ (SS (M.yZ)):=bj (cx:=SU) true aeA Tryz.func78 hq ⟨zs0,fun x=>x.1.1⟩ (fun x=>by kernel_rfl)
def aeC(y:(Int×Bool)⊕Int){R:Type}(k:KT R):R:=match y with|.inl a0=>kk k Ex.ret ⟨[.any,iq0,.bool],[]⟩ (((),(a0.1,(a0.2,()))),())|.inr a1=>kk k (Ex.exit 0) ⟨[iq0,.any,.any],[]⟩ ((a1,((),((),()))),())
def aeD:List (dc K ((Int×Bool)⊕Int)):=[⟨Ex.ret,⟨[.any,iq0,.bool],[]⟩,fun x=>.inl (x.1.2.1,x.1.2.2.1)⟩,⟨(Ex.exit 0),⟨[iq0,.any,.any],[]⟩,fun x=>.inr (x.1.1)⟩]
def SV:bZ K:=cr D false 39 0 [5,15,16,17] [5,2,3] Rk (fun x=>M.pB x.1.2.1 x.1.2.2.1 ai x.1.1 x.1.2.2.2.1) aeC
def SX(m:(List UInt8)->Option (Int×Bool)):aP K:={f:=89,sh:=zs2,R:=Int×Bool,run:=fun x=>m x.1.1,dflt:=default,out:=fun r=>(Sh.enc D (.bk [iq0,.bool]) (r.1,(r.2,())),aR.encs D [] ())}
def CU:Cx K:=bS [(109,.kZ),(110,.plain),(111,.plain)] [Gh M.strings_Split,Gg M.oR,SD M.SE] [(6,SV)]
theorem SY:aZ CU:=bm aQ _ (ah YT (ah YS (ah aen aI)))
theorem aeE:b9 CU (bR (bX Tryz.f89) 0) SV:=lk (cx:=CU) (sh:=Rk) (run:=fun n x=>M.pB x.1.2.1 x.1.2.2.1 n x.1.1 x.1.2.2.2.1) (cg:=aeD) SY (fun m x=>by kernel_rfl) (ah ⟨ee,fun _ _ _=>rfl⟩ (ah ⟨cw,fun _ _ _=>rfl⟩ aI))
theorem aeF:aJ (SX (M.yX)):=bj (cx:=CU) true SY Tryz.func89 (hl1 aeE) ⟨⟨[.bk [iq0,.bool]],[]⟩,fun x=>(x.1.1.1,x.1.1.2.1)⟩ (fun x=>by kernel_rfl)
def SZ(m:(List UInt8)->Option Bool):aP K:=cB 54 zs2 (fun x=>m x.1.1)
def S3:Cx K:=bS [(89,.plain)] [SX M.yX] []
theorem aeG:aZ S3:=bm aQ _ (ah aeF aI)
theorem aeH:aJ (SZ (M.yW)):=bj (cx:=S3) true aeG Tryz.func54 hq ⟨zs0,fun x=>x.1.1⟩ (fun x=>by kernel_rfl)
def aeI(y:Int⊕Unit){R:Type}(k:KT R):R:=match y with|.inl a0=>kk k Ex.ret gw ((a0,()),())|.inr a1=>kk k (Ex.exit 0) zs1 (((),()),())
def aeJ:List (dc K ((Int)⊕Unit)):=[⟨Ex.ret,gw,fun x=>.inl x.1.1⟩,⟨(Ex.exit 0),zs1,fun x=>.inr (())⟩]
def S4:bZ K:=cr D false 19 0 [0,1,7,8] [4] Rl (fun x=>M.sx x.1.1 x.1.2.1 x.1.2.2.1 ai x.1.2.2.2.1) aeI
def HJ(m:(List (List UInt8))->(List UInt8)->Option Int):aP K:=cI 115 ⟨[.ax U.str,.str],[]⟩ (fun x=>m x.1.1 x.1.2.1)
def CV:Cx K:=bS [] [] [(2,S4)]
theorem S5:aZ CV:=bm aQ _ aI
theorem aeK:b9 CV (bR (bX Tryz.f115) 0) S4:=lk (cx:=CV) (sh:=Rl) (run:=fun n x=>M.sx x.1.1 x.1.2.1 x.1.2.2.1 n x.1.2.2.2.1) (cg:=aeJ) S5 (fun m x=>by kernel_rfl) (ah ⟨ee,fun _ _ _=>rfl⟩ (ah ⟨cw,fun _ _ _=>rfl⟩ aI))
theorem O3:aJ (HJ (M.pO)):=bj (cx:=CV) true S5 Tryz.func115 (hl1 aeK) ⟨gw,fun x=>x.1.1⟩ (fun x=>by kernel_rfl)
def S7(m:(List (List UInt8))->(List UInt8)->Option Bool):aP K:=cB 140 ⟨[.ax U.str,.str],[]⟩ (fun x=>m x.1.1 x.1.2.1)
def S8:Cx K:=bS [(115,.plain)] [HJ M.pO] []
theorem aeL:aZ S8:=bm aQ _ (ah O3 aI)
theorem aeM:aJ (S7 (M.A2)):=bj (cx:=S8) true aeL Tryz.func140 hq ⟨zs0,fun x=>x.1.1⟩ (fun x=>by kernel_rfl)
def aeN(y:(List UInt8)){R:Type}(k:KT R):R:=match y with|a0=>kk k (Ex.exit 0) zs2 ((a0,()),())
def aeO:List (dc K ((List UInt8))):=[⟨(Ex.exit 0),zs2,fun x=>x.1.1⟩]
def S9:bZ K:=cr D false 20 0 [0,3] [3] ⟨[iq0,.str],[]⟩ (fun x=>M.sQ ai x.1.1 x.1.2.1) aeN
def jo(m:Int->Option ((List UInt8))):aP K:=cS 35 gw (fun x=>m x.1.1)
def CW:Cx K:={eE with mode:=ef .plain [],deep:=fun c=>db (D.cells c (K.zero c)),call:=callOf D [],loop:=dP [(4,S9)]}
theorem Ta:aZ CW:=bm aQ _ aI
theorem aeP:b9 CW (bR (bX Tryz.f35) 0) S9:=lk (cx:=CW) (sh:=⟨[iq0,.str],[]⟩) (run:=fun n x=>M.sQ n x.1.1 x.1.2.1) (cg:=aeO) Ta (fun m x=>by kernel_rfl) (ah ⟨cw,fun _ _ _=>rfl⟩ aI)
theorem jN:aJ (jo (M.cT)):=bj (cx:=CW) true Ta Tryz.func35 (hl1 aeP) ⟨zs2,fun x=>x.1.1⟩ (fun x=>by kernel_rfl)
def aeQ(y:Int×(List (List UInt8))){R:Type}(k:KT R):R:=match y with|a0=>kk k (Ex.exit 0) H3 ((a0.1,()),(a0.2,()))
def aeR:List (dc K (Int×(List (List UInt8)))):=[⟨(Ex.exit 0),H3,fun x=>(x.1.1,x.2.1)⟩]
def Tc:bZ K:=cr D true 20 1 [0,1,5] [1] Rm (fun x=>M.sS ai x.1.2.1 x.1.2.2.1 x.2.1) aeQ
def B5(m:Int->(List (List UInt8))->Option (Int×(List (List UInt8)))):aP K:={f:=63,sh:=⟨[.own 0,iq0],[.arr U.str]⟩,R:=Int×(List (List UInt8)),run:=fun x=>m x.1.2.1 x.2.1,dflt:=default,out:=fun r=>(Sh.enc D (.int .i64) r.1,aR.encs D [.arr U.str] (r.2,()))}
def CX:Cx K:={eE with mode:=ef .plain [(35,.plain)],deep:=fun c=>db (D.cells c (K.zero c)),opn:=true,call:=callOf D [jo M.cT],loop:=dP [(2,Tc)]}
theorem Td:aZ CX:=bm aQ _ (ah jN aI)
theorem aeS:b9 CX (bR (bX Tryz.f63) 0) Tc:=fS (cx:=CX) (sh:=Rm) (run:=fun n x=>M.sS n x.1.2.1 x.1.2.2.1 x.2.1) (cg:=aeR) aQ Td dT (fP (by kernel_rfl)) (fun _=>rfl) (fun m x=>by kernel_rfl) (ah ⟨cw,fun _ _ _=>rfl⟩ aI) true ai
theorem HQ:aJ (B5 (M.px)):=bj (cx:=CX) true Td Tryz.func63 (hl1 aeS) ⟨H3,fun x=>(x.1.1,x.2.1)⟩ (fun x=>by kernel_rfl)
def nP(y:Int⊕Int){R:Type}(k:KT R):R:=match y with|.inl a0=>kk k Ex.ret Q8 (((),(a0,())),())|.inr a1=>kk k (Ex.exit 0) Q9 ((a1,((),())),())
def nQ:List (dc K ((Int)⊕Int)):=[⟨Ex.ret,Q8,fun x=>.inl x.1.2.1⟩,⟨(Ex.exit 0),Q9,fun x=>.inr (x.1.1)⟩]
def Tf:bZ K:=cr D false 22 0 [0,1,5] [1,4] CE (fun x=>M.sX x.1.1 ai x.1.2.1 x.1.2.2.1) nP
def Ce(m:(List (List UInt8))->Int->Option Int):aP K:=cI 67 H4 (fun x=>m x.1.1 x.1.2.1)
def CY:Cx K:=bS [(35,.plain)] [jo M.cT] [(2,Tf)]
theorem Ti:aZ CY:=bm aQ _ (ah jN aI)
theorem aeT:b9 CY (bR (bX Tryz.f67) 0) Tf:=lk (cx:=CY) (sh:=CE) (run:=fun n x=>M.sX x.1.1 n x.1.2.1 x.1.2.2.1) (cg:=nQ) Ti (fun m x=>by kernel_rfl) (ah ⟨ee,fun _ _ _=>rfl⟩ (ah ⟨cw,fun _ _ _=>rfl⟩ aI))
theorem HZ:aJ (Ce (M.py)):=bj (cx:=CY) true Ti Tryz.func67 (hl1 aeT) ⟨gw,fun x=>x.1.1⟩ (fun x=>by kernel_rfl)
def aeU(y:(List UInt8)×Int×Int){R:Type}(k:KT R):R:=match y with|a0=>kk k (Ex.exit 3) pH ((a0.1,(a0.2.1,(a0.2.2,()))),())
def aeV:List (dc K ((List UInt8)×Int×Int)):=[⟨(Ex.exit 3),pH,fun x=>(x.1.1,x.1.2.1,x.1.2.2.1)⟩]
def Tj:bZ K:=cr D false 63 0 [0,1,2] [0,1,2] pH (fun x=>M.vr x.1.1 x.1.2.2.1 ai x.1.2.1) aeU
def aeW(y:(Int×Int)⊕(Int×Int)){R:Type}(k:KT R):R:=match y with|.inl a0=>kk k Ex.ret Rn (((),((),(a0.1,(a0.2,())))),())|.inr a1=>kk k (Ex.exit 0) Ro ((a1.1,(a1.2,((),((),())))),())
def aeX:List (dc K ((Int×Int)⊕(Int×Int))):=[⟨Ex.ret,Rn,fun x=>.inl (x.1.2.2.1,x.1.2.2.2.1)⟩,⟨(Ex.exit 0),Ro,fun x=>.inr ((x.1.1,x.1.2.1))⟩]
def Tm:bZ K:=cr D false 63 0 [0,1,2] [1,2,6,7] pH (fun x=>M.oU ai x.1.1 x.1.2.1 x.1.2.2.1) aeW
def Tn(m:(List UInt8)->Int->Int->Option (Int×Int)):aP K:={f:=40,sh:=pH,R:=Int×Int,run:=fun x=>m x.1.1 x.1.2.1 x.1.2.2.1,dflt:=default,out:=fun r=>(Sh.enc D (.bk [iq0,iq0]) (r.1,(r.2,())),aR.encs D [] ())}
def wq:Cx K:=bS [] [] [(9,Tj),(1,Tm)]
theorem Ih:aZ wq:=bm aQ _ aI
theorem aeY:b9 wq (bR (bR (bX Tryz.f40) 0) 0) Tj:=lk (cx:=wq) (sh:=pH) (run:=fun n x=>M.vr x.1.1 x.1.2.2.1 n x.1.2.1) (cg:=aeV) Ih (fun m x=>by kernel_rfl) (ah ⟨cw,fun _ _ _=>rfl⟩ aI)
theorem aeZ:b9 wq (bR (bX Tryz.f40) 0) Tm:=lk (cx:=wq) (sh:=pH) (run:=fun n x=>M.oU n x.1.1 x.1.2.1 x.1.2.2.1) (cg:=aeX) Ih (fun m x=>by kernel_rfl) (ah ⟨ee,fun _ _ _=>rfl⟩ (ah ⟨cw,fun _ _ _=>rfl⟩ aI)) (hl:=(nt 1 (by kernel_rfl) (oP (.mk (by kernel_rfl) aeY))))
theorem ae0:aJ (Tn (M.so)):=bj (cx:=wq) true Ih Tryz.func40 (hl1 aeZ) ⟨⟨[.bk [iq0,iq0]],[]⟩,fun x=>(x.1.1.1,x.1.1.2.1)⟩ (fun x=>by kernel_rfl)
def Ii(m:Int->Option Bool):aP K:=cB 71 wk (fun x=>m x.1.1)
theorem To:aJ (Ii (M.Ij)):=bj (cx:=iC) true iZ Tryz.func71 hq ⟨zs0,fun x=>x.1.1⟩ (fun x=>by kernel_rfl)
def CZ(m:Int->Option Bool):aP K:=cB 73 wk (fun x=>m x.1.1)
theorem Ik:aJ (CZ (M.C0)):=bj (cx:=iC) true iZ Tryz.func73 hq ⟨zs0,fun x=>x.1.1⟩ (fun x=>by kernel_rfl)
def Tq:bZ K:=cr D false 53 0 [0,1] [1,4] pG (fun x=>M.sr x.1.1 ai x.1.2.1) nP
def Tt(m:(List UInt8)->Int->Option Int):aP K:=cI 72 pG (fun x=>m x.1.1 x.1.2.1)
def C2:Cx K:=bS [(71,.plain),(73,.plain)] [Ii M.Ij,CZ M.C0] [(1,Tq)]
theorem Tu:aZ C2:=bm aQ _ (ah To (ah Ik aI))
theorem ae1:b9 C2 (bR (bX Tryz.f72) 0) Tq:=lk (cx:=C2) (sh:=pG) (run:=fun n x=>M.sr x.1.1 n x.1.2.1) (cg:=nQ) Tu (fun m x=>by kernel_rfl) (ah ⟨ee,fun _ _ _=>rfl⟩ (ah ⟨cw,fun _ _ _=>rfl⟩ aI))
theorem ae2:aJ (Tt (M.xF)):=bj (cx:=C2) true Tu Tryz.func72 (hl1 ae1) ⟨gw,fun x=>x.1.1⟩ (fun x=>by kernel_rfl)
def Tv:bZ K:=cr D false 39 0 [0,1] [1,4] pG (fun x=>M.su x.1.1 ai x.1.2.1) nP
def Tz(m:(List UInt8)->Int->Option Int):aP K:=cI 74 pG (fun x=>m x.1.1 x.1.2.1)
def C3:Cx K:=bS [(73,.plain)] [CZ M.C0] [(1,Tv)]
theorem TB:aZ C3:=bm aQ _ (ah Ik aI)
theorem ae3:b9 C3 (bR (bX Tryz.f74) 0) Tv:=lk (cx:=C3) (sh:=pG) (run:=fun n x=>M.su x.1.1 n x.1.2.1) (cg:=nQ) TB (fun m x=>by kernel_rfl) (ah ⟨ee,fun _ _ _=>rfl⟩ (ah ⟨cw,fun _ _ _=>rfl⟩ aI))
theorem ae4:aJ (Tz (M.xG)):=bj (cx:=C3) true TB Tryz.func74 (hl1 ae3) ⟨gw,fun x=>x.1.1⟩ (fun x=>by kernel_rfl)
def TC:bZ K:=cr D false 16 0 [0,3,4] [2] ⟨[.int .u8,.str,iq0],[]⟩ (fun x=>M.qy x.1.1 x.1.2.1 ai x.1.2.2.1) mQ
def TD(m:Int->Option Bool):aP K:=cB 75 wk (fun x=>m x.1.1)
def C4:Cx K:=bS [] [] [(3,TC)]
theorem TE:aZ C4:=bm aQ _ aI
theorem ae5:b9 C4 (bR (bX Tryz.f75) 0) TC:=lk (cx:=C4) (sh:=⟨[.int .u8,.str,iq0],[]⟩) (run:=fun n x=>M.qy x.1.1 x.1.2.1 n x.1.2.2.1) (cg:=mR) TE (fun m x=>by kernel_rfl) (ah ⟨ee,fun _ _ _=>rfl⟩ (ah ⟨cw,fun _ _ _=>rfl⟩ aI))
theorem ae6:aJ (TD (M.xI)):=bj (cx:=C4) true TE Tryz.func75 (hl1 ae5) ⟨zs0,fun x=>x.1.1⟩ (fun x=>by kernel_rfl)
def TF(m:(List UInt8)->Int->Option (M.ae×Int)):aP K:={f:=41,sh:=pG,R:=M.ae×Int,run:=fun x=>m x.1.1 x.1.2.1,dflt:=default,out:=fun r=>(Sh.enc D (.bk [.el U.Token,iq0]) (r.1,(r.2,())),aR.encs D [] ())}
def TG:Cx K:=bS [(71,.plain),(72,.plain),(73,.plain),(74,.plain),(75,.plain)] [Ii M.Ij,Tt M.xF,CZ M.C0,Tz M.xG,TD M.xI] []
theorem ae7:aZ TG:=bm aQ _ (ah To (ah ae2 (ah Ik (ah ae4 (ah ae6 aI)))))
theorem ae8:aJ (TF (M.xK)):=bj (cx:=TG) true ae7 Tryz.func41 hq ⟨⟨[.bk [.el U.Token,iq0]],[]⟩,fun x=>(x.1.1.1,x.1.1.2.1)⟩ (fun x=>by kernel_rfl)
def ae9(y:(Int×Int×(List M.ae))⊕(Int×(List M.ae))){R:Type}(k:KT R):R:=match y with|.inl a0=>kk k Ex.ret Rq (((),((),((),(a0.1,(a0.2.1,()))))),((),((),(a0.2.2,()))))|.inr a1=>kk k (Ex.exit 0) Rr (((),(a1.1,((),((),((),()))))),((),(a1.2,())))
def afa:List (dc K ((Int×Int×(List M.ae))⊕(Int×(List M.ae)))):=[⟨Ex.ret,Rq,fun x=>.inl (x.1.2.2.2.1,x.1.2.2.2.2.1,x.2.2.2.1)⟩,⟨(Ex.exit 0),Rr,fun x=>.inr ((x.1.2.1,x.2.2.1))⟩]
def TI:bZ K:=cr D false 54 1 [0,5,6,7] [5,7,2,3,4] Rt (fun x=>M.vy x.1.1 ai x.1.2.2.1 x.1.2.2.2.1 x.2.2.1) ae9
def TJ(m:(List UInt8)->Option ((List M.ae)×Int×Int)):aP K:={f:=20,sh:=zs2,R:=(List M.ae)×Int×Int,run:=fun x=>m x.1.1,dflt:=default,out:=fun r=>(Sh.enc D (.bk [.ax U.Token,iq0,iq0]) (r.1,(r.2.1,(r.2.2,()))),aR.encs D [] ())}
def C5:Cx K:=bS [(40,.plain),(41,.plain)] [Tn M.so,TF M.xK] [(5,TI)]
theorem TK:aZ C5:=bm aQ _ (ah ae0 (ah ae8 aI))
theorem afb:b9 C5 (bR (bX Tryz.f20) 0) TI:=lk (cx:=C5) (sh:=Rt) (run:=fun n x=>M.vy x.1.1 n x.1.2.2.1 x.1.2.2.2.1 x.2.2.1) (cg:=afa) TK (fun m x=>by kernel_rfl) (ah ⟨ee,fun _ _ _=>rfl⟩ (ah ⟨cw,fun _ _ _=>rfl⟩ aI))
theorem abY:aJ (TJ (M.xM)):=bj (cx:=C5) true TK Tryz.func20 (hl1 afb) ⟨Ru,fun x=>(x.1.1.1,x.1.1.2.1,x.1.1.2.2.1)⟩ (fun x=>by kernel_rfl)
def TL(m:(List UInt8)->(List UInt8)->Option Bool):aP K:=cB 106 ⟨[.str,.str],[]⟩ (fun x=>m x.1.1 x.1.2.1)
theorem afc:aJ (TL (M.AT)):=bj (cx:=iC) true iZ Tryz.func106 hq ⟨zs0,fun x=>x.1.1⟩ (fun x=>by kernel_rfl)
def Il(m:(List UInt8)->(List UInt8)->Option Bool):aP K:=cB 84 ⟨[.str,.str],[]⟩ (fun x=>m x.1.1 x.1.2.1)
def TM:Cx K:=bS [(106,.plain)] [TL M.AT] []
theorem afd:aZ TM:=bm aQ _ (ah afc aI)
theorem TN:aJ (Il (M.strings_HasPrefix)):=bj (cx:=TM) true afd Tryz.func84 hq ⟨zs0,fun x=>x.1.1⟩ (fun x=>by kernel_rfl)
def afe(y:(List UInt8)×Int×Int×(List M.ae)){R:Type}(k:KT R):R:=match y with|a0=>kk k (Ex.exit 3) wm (((),()),((a0.1,(a0.2.1,(a0.2.2.1,((),())))),((),(a0.2.2.2,()))))
def aff:List (dc K ((List UInt8)×Int×Int×(List M.ae))):=[⟨(Ex.exit 3),wm,fun x=>(x.2.1.1,x.2.1.2.1,x.2.1.2.2.1,x.2.2.2.1)⟩]
def TP:bZ K:=cr D false 89 2 [0] [0] wm (fun x=>M.vt x.2.1.1 x.2.1.2.2.1 x.2.2.2.1 ai x.2.1.2.1) afe
def afg(y:((List UInt8)×Int×Int×(List M.ae))⊕((List UInt8)×Int×Int×(List M.ae))){R:Type}(k:KT R):R:=match y with|.inl a0=>kk k Ex.ret CG ((),((a0.1,(a0.2.1,(a0.2.2.1,((),())))),((),(a0.2.2.2,()))))|.inr a1=>kk k (Ex.exit 0) CG ((),((a1.1,(a1.2.1,(a1.2.2.1,((),())))),((),(a1.2.2.2,()))))
def afh:List (dc K (((List UInt8)×Int×Int×(List M.ae))⊕((List UInt8)×Int×Int×(List M.ae)))):=[⟨Ex.ret,CG,fun x=>.inl (x.2.1.1,x.2.1.2.1,x.2.1.2.2.1,x.2.2.2.1)⟩,⟨(Ex.exit 0),CG,fun x=>.inr ((x.2.1.1,x.2.1.2.1,x.2.1.2.2.1,x.2.2.2.1))⟩]
def TQ:bZ K:=cr D false 89 2 [0] [] wm (fun x=>M.oW ai x.2.1.1 x.2.1.2.1 x.2.1.2.2.1 x.2.2.2.1) afg
def TR(m:(List UInt8)->Int->Int->(List M.ae)->Option ((List UInt8)×Int×Int×(List M.ae))):aP K:={f:=50,sh:=⟨[.ptr 0 0],[.box [.str,iq0,iq0,.own 1],.arr U.Token]⟩,R:=(List UInt8)×Int×Int×(List M.ae),run:=fun x=>m x.2.1.1 x.2.1.2.1 x.2.1.2.2.1 x.2.2.1,dflt:=default,out:=fun r=>(Sh.enc D (.bk []) (),aR.encs D [.box [.str,iq0,iq0,.own 2],.dead,.arr U.Token] ((r.1,(r.2.1,(r.2.2.1,((),())))),((),(r.2.2.2,()))))}
def wu:Cx K:={eE with mode:=ef .plain [(84,.plain)],mv:=true,call:=callOf D [Il M.strings_HasPrefix],loop:=dP [(8,TP),(0,TQ)]}
theorem Im:aZ wu:=bm aQ _ (ah TN aI)
theorem afi:b9 wu (bR (bR (bX Tryz.f50) 0) 0) TP:=lk (cx:=wu) (sh:=wm) (run:=fun n x=>M.vt x.2.1.1 x.2.1.2.2.1 x.2.2.2.1 n x.2.1.2.1) (cg:=aff) Im (fun m x=>by kernel_rfl) (ah ⟨cw,fun _ _ _=>rfl⟩ aI)
theorem afj:b9 wu (bR (bX Tryz.f50) 0) TQ:=lk (cx:=wu) (sh:=wm) (run:=fun n x=>M.oW n x.2.1.1 x.2.1.2.1 x.2.1.2.2.1 x.2.2.2.1) (cg:=afh) Im (fun m x=>by kernel_rfl) (ah ⟨ee,fun _ _ _=>rfl⟩ (ah ⟨cw,fun _ _ _=>rfl⟩ aI)) (hl:=(nt 1 (by kernel_rfl) (oP (.mk (by kernel_rfl) afi))))
theorem afk:aJ (TR (M.sq)):=bj (cx:=wu) true Im Tryz.func50 (hl1 afj) ⟨⟨[.bk []],[.box [.str,iq0,iq0,.own 2],.dead,.arr U.Token]⟩,fun x=>(x.2.1.1,x.2.1.2.1,x.2.1.2.2.1,x.2.2.2.1)⟩ (fun x=>by kernel_rfl)
def TS(m:M.gu->Int->Option Int):aP K:={f:=107,sh:=⟨[.rp U.lC 0,iq0],[]⟩,R:=Int,run:=fun x=>m x.1.1 x.1.2.1,dflt:=default,out:=fun r=>(Sh.enc D (.int .u8) r,aR.encs D [] ())}
theorem afl:aJ (TS (M.xH)):=bj (cx:=iC) true iZ Tryz.func107 hq ⟨wk,fun x=>x.1.1⟩ (fun x=>by kernel_rfl)
def afm(y:Int){R:Type}(k:KT R):R:=match y with|a0=>kk k (Ex.exit 0) gw ((a0,()),())
def afn:List (dc K Int):=[⟨(Ex.exit 0),gw,fun x=>x.1.1⟩]
def TU:bZ K:=cr D false 79 0 [0,1,5] [1] ⟨[.rp U.lC 0,iq0,.bool],[]⟩ (fun x=>M.vv x.1.1 x.1.2.2.1 ai x.1.2.1) afm
def TV(m:M.gu->Int->Option Int):aP K:=cI 86 ⟨[.rp U.lC 0,iq0],[]⟩ (fun x=>m x.1.1 x.1.2.1)
def C6:Cx K:=bS [(85,.plain),(107,.plain),(87,.plain)] [H9 M.Ia,TS M.xH,Ib M.Ic] [(3,TU)]
theorem TW:aZ C6:=bm aQ _ (ah Sm (ah afl (ah Sr aI)))
theorem afo:b9 C6 (bR (bX Tryz.f86) 0) TU:=lk (cx:=C6) (sh:=⟨[.rp U.lC 0,iq0,.bool],[]⟩) (run:=fun n x=>M.vv x.1.1 x.1.2.2.1 n x.1.2.1) (cg:=afn) TW (fun m x=>by kernel_rfl) (ah ⟨cw,fun _ _ _=>rfl⟩ aI)
theorem afp:aJ (TV (M.vx)):=bj (cx:=C6) true TW Tryz.func86 (hl1 afo) ⟨gw,fun x=>x.1.1⟩ (fun x=>by kernel_rfl)
def TX(m:M.gu->Option (Int×Int)):aP K:={f:=51,sh:=⟨[.rp U.lC 0],[]⟩,R:=Int×Int,run:=fun x=>m x.1.1,dflt:=default,out:=fun r=>(Sh.enc D (.bk [iq0,iq0]) (r.1,(r.2,())),aR.encs D [] ())}
def TY:Cx K:=bS [(85,.plain),(86,.plain),(87,.plain),(84,.plain),(88,.plain)] [H9 M.Ia,TV M.vx,Ib M.Ic,Il M.strings_HasPrefix,Ge M.strings_IndexByte] []
theorem afq:aZ TY:=bm aQ _ (ah Sm (ah afp (ah Sr (ah TN (ah YK aI)))))
theorem afr:aJ (TX (M.xJ)):=bj (cx:=TY) true afq Tryz.func51 hq ⟨⟨[.bk [iq0,iq0]],[]⟩,fun x=>(x.1.1.1,x.1.1.2.1)⟩ (fun x=>by kernel_rfl)
def afs(y:(Int×Int)⊕((List UInt8)×Int×Int×(List M.ae))){R:Type}(k:KT R):R:=match y with|.inl a0=>kk k Ex.ret Rw (((),((),(a0.1,(a0.2,())))),((),((),((),()))))|.inr a1=>kk k (Ex.exit 0) Rx (((),((),((),((),())))),((a1.1,(a1.2.1,(a1.2.2.1,((),())))),((),(a1.2.2.2,()))))
def aft:List (dc K ((Int×Int)⊕((List UInt8)×Int×Int×(List M.ae)))):=[⟨Ex.ret,Rw,fun x=>.inl (x.1.2.2.1,x.1.2.2.2.1)⟩,⟨(Ex.exit 0),Rx,fun x=>.inr ((x.2.1.1,x.2.1.2.1,x.2.1.2.2.1,x.2.2.2.1))⟩]
def TZ:bZ K:=cr D false 85 2 [0,5] [5,2,3,4] Ry (fun x=>M.vz x.1.1 ai x.2.1.1 x.2.1.2.1 x.2.1.2.2.1 x.2.2.2.1) afs
def P1(m:(List UInt8)->Option ((List M.ae)×Int×Int)):aP K:={f:=24,sh:=zs2,R:=(List M.ae)×Int×Int,run:=fun x=>m x.1.1,dflt:=default,out:=fun r=>(Sh.enc D (.bk [.ax U.Token,iq0,iq0]) (r.1,(r.2.1,(r.2.2,()))),aR.encs D [] ())}
def C7:Cx K:=bS [(50,.aY),(51,.plain)] [TR M.sq,TX M.xJ] [(5,TZ)]
theorem T0:aZ C7:=bm aQ _ (ah afk (ah afr aI))
theorem afu:b9 C7 (bR (bX Tryz.f24) 0) TZ:=lk (cx:=C7) (sh:=Ry) (run:=fun n x=>M.vz x.1.1 n x.2.1.1 x.2.1.2.1 x.2.1.2.2.1 x.2.2.2.1) (cg:=aft) T0 (fun m x=>by kernel_rfl) (ah ⟨ee,fun _ _ _=>rfl⟩ (ah ⟨cw,fun _ _ _=>rfl⟩ aI))
theorem adq:aJ (P1 (M.uv)):=bj (cx:=C7) true T0 Tryz.func24 (hl1 afu) ⟨Ru,fun x=>(x.1.1.1,x.1.1.2.1,x.1.1.2.2.1)⟩ (fun x=>by kernel_rfl)
def uc(m:M.an->Option (M.ae×M.an)):aP K:={f:=22,sh:=l4,R:=M.ae×M.an,run:=fun x=>m x.2.1,dflt:=default,out:=fun r=>(Sh.enc D (.el U.Token) r.1,aR.encs D [.el U.cM] (r.2,()))}
theorem wd:aJ (uc (M.ka)):=bj (cx:=iC) true iZ Tryz.func22 hq ⟨⟨[.el U.Token],[.el U.cM]⟩,fun x=>(x.1.1,x.2.1)⟩ (fun x=>by kernel_rfl)
def T8(m:(List UInt8)->Option Bool):aP K:=cB 76 zs2 (fun x=>m x.1.1)
def T9:Cx K:=bS [(100,.plain)] [SB M.yV] []
theorem afv:aZ T9:=bm aQ _ (ah aem aI)
theorem afw:aJ (T8 (M.xP)):=bj (cx:=T9) true afv Tryz.func76 hq ⟨zs0,fun x=>x.1.1⟩ (fun x=>by kernel_rfl)
def C9(m:M.an->Option (M.an)):aP K:={f:=77,sh:=l4,R:=M.an,run:=fun x=>m x.2.1,dflt:=default,out:=fun r=>(Sh.enc D (.bk []) (),aR.encs D [.el U.cM] (r,()))}
theorem Io:aJ (C9 (M.oY)):=bj (cx:=iC) true iZ Tryz.func77 hq ⟨H5,fun x=>x.2.1⟩ (fun x=>by kernel_rfl)
def nR(m:M.an->Option ((List UInt8)×M.an)):aP K:={f:=43,sh:=l4,R:=(List UInt8)×M.an,run:=fun x=>m x.2.1,dflt:=default,out:=fun r=>(Sh.enc D (.str) r.1,aR.encs D [.el U.cM] (r.2,()))}
def Ua:Cx K:=bS [(22,.aY),(76,.plain),(77,.aY)] [uc M.ka,T8 M.xP,C9 M.oY] []
theorem afx:aZ Ua:=bm aQ _ (ah wd (ah afw (ah Io aI)))
theorem pI:aJ (nR (M.fk)):=bj (cx:=Ua) true afx Tryz.func43 hq ⟨H6,fun x=>(x.1.1,x.2.1)⟩ (fun x=>by kernel_rfl)
def Ub(m:Option ((List (List UInt8)))):aP K:={f:=157,sh:=⟨[],[]⟩,R:=(List (List UInt8)),run:=fun x=>m,dflt:=default,out:=fun r=>(Sh.enc D (.own 0) (),aR.encs D [.arr U.str] (r,()))}
def Uc:Cx K:={eE with mode:=ef .plain [],fX:=[[some U.str]],call:=callOf D [],loop:=dP []}
theorem afy:aZ Uc:=bm aQ _ aI
theorem afz:aJ (Ub (M.xR)):=bj (cx:=Uc) false afy Tryz.func157 hq ⟨⟨[.own 0],[.arr U.str]⟩,fun x=>x.2.1⟩ (fun x=>by kernel_rfl)
def Ud(m:Option ((List (List UInt8)))):aP K:={f:=158,sh:=⟨[],[]⟩,R:=(List (List UInt8)),run:=fun x=>m,dflt:=default,out:=fun r=>(Sh.enc D (.ax U.str) r,aR.encs D [] ())}
theorem afA:aJ (Ud (M.xU)):=bj (cx:=iC) true iZ Tryz.func158 hq ⟨CH,fun x=>x.1.1⟩ (fun x=>by kernel_rfl)
def afB(y:Int⊕Unit){R:Type}(k:KT R):R:=match y with|.inl a0=>kk k Ex.ret ⟨[iq0],[.dead]⟩ ((a0,()),((),()))|.inr a1=>kk k (Ex.exit 0) ⟨[.any],[.dead]⟩ (((),()),((),()))
def afC:List (dc K ((Int)⊕Unit)):=[⟨Ex.ret,⟨[iq0],[.dead]⟩,fun x=>.inl x.1.1⟩,⟨(Ex.exit 0),⟨[.any],[.dead]⟩,fun x=>.inr (())⟩]
def Ue:bZ K:=cr D false 22 1 [0,3,4] [2] Rz (fun x=>M.qB x.1.1 x.2.2.1 ai x.1.2.2.1) afB
def Ip(m:(List UInt8)->Option Int):aP K:=cI 132 zs2 (fun x=>m x.1.1)
def Da:Cx K:=bS [(157,.fresh),(158,.kZ)] [Ub M.xR,Ud M.xU] [(3,Ue)]
theorem Uf:aZ Da:=bm aQ _ (ah afz (ah afA aI))
theorem afD:b9 Da (bR (bX Tryz.f132) 0) Ue:=lk (cx:=Da) (sh:=Rz) (run:=fun n x=>M.qB x.1.1 x.2.2.1 n x.1.2.2.1) (cg:=afC) Uf (fun m x=>by kernel_rfl) (ah ⟨ee,fun _ _ _=>rfl⟩ (ah ⟨cw,fun _ _ _=>rfl⟩ aI))
theorem Ug:aJ (Ip (M.qA)):=bj (cx:=Da) true Uf Tryz.func132 (hl1 afD) ⟨gw,fun x=>x.1.1⟩ (fun x=>by kernel_rfl)
def Uh(m:(List UInt8)->M.an->Option (Bool×M.an)):aP K:={f:=79,sh:=CJ,R:=Bool×M.an,run:=fun x=>m x.1.2.1 x.2.1,dflt:=default,out:=fun r=>(Sh.enc D (.bool) r.1,aR.encs D [.el U.cM] (r.2,()))}
def Ui:Cx K:=bS [(22,.aY)] [uc M.ka] []
theorem afE:aZ Ui:=bm aQ _ (ah wd aI)
theorem afF:aJ (Uh (M.xO)):=bj (cx:=Ui) true afE Tryz.func79 hq ⟨⟨[.bool],[.el U.cM]⟩,fun x=>(x.1.1,x.2.1)⟩ (fun x=>by kernel_rfl)
def lE(m:(List UInt8)->M.an->Option (Bool×M.an)):aP K:={f:=45,sh:=CJ,R:=Bool×M.an,run:=fun x=>m x.1.2.1 x.2.1,dflt:=default,out:=fun r=>(Sh.enc D (.bool) r.1,aR.encs D [.el U.cM] (r.2,()))}
def Uj:Cx K:=bS [(79,.aY),(77,.aY)] [Uh M.xO,C9 M.oY] []
theorem afG:aZ Uj:=bm aQ _ (ah afF (ah Io aI))
theorem l6:aJ (lE (M.dC)):=bj (cx:=Uj) true afG Tryz.func45 hq ⟨⟨[.bool],[.el U.cM]⟩,fun x=>(x.1.1,x.2.1)⟩ (fun x=>by kernel_rfl)
def l7(m:(List UInt8)->M.an->Option (M.an)):aP K:={f:=42,sh:=CJ,R:=M.an,run:=fun x=>m x.1.2.1 x.2.1,dflt:=default,out:=fun r=>(Sh.enc D (.bk []) (),aR.encs D [.el U.cM] (r,()))}
def Uk:Cx K:=bS [(45,.aY)] [lE M.dC] []
theorem afH:aZ Uk:=bm aQ _ (ah l6 aI)
theorem mU:aJ (l7 (M.dt)):=bj (cx:=Uk) true afH Tryz.func42 hq ⟨H5,fun x=>x.2.1⟩ (fun x=>by kernel_rfl)
def Ul(m:Int->M.ad->Option ((List UInt8)×M.ad)):aP K:={f:=52,sh:=⟨[.ptr 0 0,iq0,.fn 53 []],[.el U.parser]⟩,R:=(List UInt8)×M.ad,run:=fun x=>m x.1.2.1 x.2.1,dflt:=default,out:=fun r=>(Sh.enc D (.str) r.1,aR.encs D [.el U.parser] (r.2,()))}
def Um:Cx K:=bS [(53,.plain)] [Ie M.tq] []
theorem afI:aZ Um:=bm aQ _ (ah SI aI)
theorem afJ:aJ (Ul (M.xQ)):=bj (cx:=Um) true afI Tryz.func52 hq ⟨wo,fun x=>(x.1.1,x.2.1)⟩ (fun x=>by kernel_rfl)
def pD(m:M.ad->Option ((List UInt8)×M.ad)):aP K:={f:=26,sh:=qX,R:=(List UInt8)×M.ad,run:=fun x=>m x.2.1,dflt:=default,out:=fun r=>(Sh.enc D (.str) r.1,aR.encs D [.el U.parser] (r.2,()))}
def Un:Cx K:=bS [(52,.aY)] [Ul M.xQ] []
theorem afK:aZ Un:=bm aQ _ (ah afJ aI)
theorem qW:aJ (pD (M.ek)):=bj (cx:=Un) true afK Tryz.func26 hq ⟨wo,fun x=>(x.1.1,x.2.1)⟩ (fun x=>by kernel_rfl)
def HH(m:Option ((List (List UInt8)))):aP K:={f:=116,sh:=⟨[],[]⟩,R:=(List (List UInt8)),run:=fun x=>m,dflt:=default,out:=fun r=>(Sh.enc D (.ax U.str) r,aR.encs D [] ())}
theorem O2:aJ (HH (M.gj)):=bj (cx:=iC) true iZ Tryz.func116 hq ⟨CH,fun x=>x.1.1⟩ (fun x=>by kernel_rfl)
def HG(m:(List UInt8)->Option Bool):aP K:=cB 114 zs2 (fun x=>m x.1.1)
def Uo:Cx K:=bS [(116,.kZ),(140,.plain)] [HH M.gj,S7 M.A2] []
theorem afL:aZ Uo:=bm aQ _ (ah O2 (ah aeM aI))
theorem O1:aJ (HG (M.mX)):=bj (cx:=Uo) true afL Tryz.func114 hq ⟨zs0,fun x=>x.1.1⟩ (fun x=>by kernel_rfl)
def wh(m:(List UInt8)->M.ad->Option (Bool×M.ad)):aP K:={f:=55,sh:=BV,R:=Bool×M.ad,run:=fun x=>m x.1.2.1 x.2.1,dflt:=default,out:=fun r=>(Sh.enc D (.bool) r.1,aR.encs D [.el U.parser] (r.2,()))}
theorem zo:aJ (wh (M.jb)):=bj (cx:=iC) true iZ Tryz.func55 hq ⟨⟨[.bool],[.el U.parser]⟩,fun x=>(x.1.1,x.2.1)⟩ (fun x=>by kernel_rfl)
def lD(m:(List UInt8)->M.ad->Option (Bool×M.ad)):aP K:={f:=28,sh:=BV,R:=Bool×M.ad,run:=fun x=>m x.1.2.1 x.2.1,dflt:=default,out:=fun r=>(Sh.enc D (.bool) r.1,aR.encs D [.el U.parser] (r.2,()))}
def Up:Cx K:=bS [(55,.aY)] [wh M.jb] []
theorem afM:aZ Up:=bm aQ _ (ah zo aI)
theorem lZ:aJ (lD (M.cJ)):=bj (cx:=Up) true afM Tryz.func28 hq ⟨⟨[.bool],[.el U.parser]⟩,fun x=>(x.1.1,x.2.1)⟩ (fun x=>by kernel_rfl)
def nO(m:(List UInt8)->M.ad->Option (M.ad)):aP K:={f:=25,sh:=BV,R:=M.ad,run:=fun x=>m x.1.2.1 x.2.1,dflt:=default,out:=fun r=>(Sh.enc D (.bk []) (),aR.encs D [.el U.parser] (r,()))}
def Ur:Cx K:=bS [(28,.aY)] [lD M.cJ] []
theorem afN:aZ Ur:=bm aQ _ (ah lZ aI)
theorem pC:aJ (nO (M.bF)):=bj (cx:=Ur) true afN Tryz.func25 hq ⟨⟨[.bk []],[.el U.parser]⟩,fun x=>x.2.1⟩ (fun x=>by kernel_rfl)
def Us(m:(List UInt8)->Option Bool):aP K:=cB 113 zs2 (fun x=>m x.1.1)
def Ut:Cx K:=bS [(53,.plain),(114,.plain)] [Ie M.tq,HG M.mX] []
theorem afO:aZ Ut:=bm aQ _ (ah SI (ah O1 aI))
theorem afP:aJ (Us (M.xZ)):=bj (cx:=Ut) true afO Tryz.func113 hq ⟨zs0,fun x=>x.1.1⟩ (fun x=>by kernel_rfl)
def Uu(m:Int->M.ad->Option ((List UInt8)×M.ad)):aP K:={f:=52,sh:=⟨[.ptr 0 0,iq0,.fn 113 []],[.el U.parser]⟩,R:=(List UInt8)×M.ad,run:=fun x=>m x.1.2.1 x.2.1,dflt:=default,out:=fun r=>(Sh.enc D (.str) r.1,aR.encs D [.el U.parser] (r.2,()))}
def Uw:Cx K:=bS [(113,.plain)] [Us M.xZ] []
theorem afQ:aZ Uw:=bm aQ _ (ah afP aI)
theorem afR:aJ (Uu (M.x5)):=bj (cx:=Uw) true afQ Tryz.func52 hq ⟨wo,fun x=>(x.1.1,x.2.1)⟩ (fun x=>by kernel_rfl)
def BR(m:M.ad->Option ((List UInt8)×M.ad)):aP K:={f:=91,sh:=qX,R:=(List UInt8)×M.ad,run:=fun x=>m x.2.1,dflt:=default,out:=fun r=>(Sh.enc D (.str) r.1,aR.encs D [.el U.parser] (r.2,()))}
def Ux:Cx K:=bS [(52,.aY)] [Uu M.x5] []
theorem afS:aZ Ux:=bm aQ _ (ah afR aI)
theorem HK:aJ (BR (M.ja)):=bj (cx:=Ux) true afS Tryz.func91 hq ⟨wo,fun x=>(x.1.1,x.2.1)⟩ (fun x=>by kernel_rfl)
def Uy(m:Int->M.ad->Option ((List UInt8)×M.ad)):aP K:={f:=52,sh:=⟨[.ptr 0 0,iq0,.fn 54 []],[.el U.parser]⟩,R:=(List UInt8)×M.ad,run:=fun x=>m x.1.2.1 x.2.1,dflt:=default,out:=fun r=>(Sh.enc D (.str) r.1,aR.encs D [.el U.parser] (r.2,()))}
def Uz:Cx K:=bS [(54,.plain)] [SZ M.yW] []
theorem afT:aZ Uz:=bm aQ _ (ah aeH aI)
theorem afU:aJ (Uy (M.x6)):=bj (cx:=Uz) true afT Tryz.func52 hq ⟨wo,fun x=>(x.1.1,x.2.1)⟩ (fun x=>by kernel_rfl)
def HN(m:M.ad->Option ((List UInt8)×M.ad)):aP K:={f:=27,sh:=qX,R:=(List UInt8)×M.ad,run:=fun x=>m x.2.1,dflt:=default,out:=fun r=>(Sh.enc D (.str) r.1,aR.encs D [.el U.parser] (r.2,()))}
def UA:Cx K:=bS [(52,.aY)] [Uy M.x6] []
theorem afV:aZ UA:=bm aQ _ (ah afU aI)
theorem PW:aJ (HN (M.nX)):=bj (cx:=UA) true afV Tryz.func27 hq ⟨wo,fun x=>(x.1.1,x.2.1)⟩ (fun x=>by kernel_rfl)
def HM(m:M.ad->Option (M.bh×M.ad)):aP K:={f:=57,sh:=qX,R:=M.bh×M.ad,run:=fun x=>m x.2.1,dflt:=default,out:=fun r=>(Sh.enc D (.el U.Path) r.1,aR.encs D [.el U.parser] (r.2,()))}
def UB:Cx K:=bS [(26,.aY),(28,.aY),(27,.aY)] [pD M.ek,lD M.cJ,HN M.nX] []
theorem afW:aZ UB:=bm aQ _ (ah qW (ah lZ (ah PW aI)))
theorem PH:aJ (HM (M.jc)):=bj (cx:=UB) true afW Tryz.func57 hq ⟨⟨[.el U.Path],[.el U.parser]⟩,fun x=>(x.1.1,x.2.1)⟩ (fun x=>by kernel_rfl)
def jq(m:Int->M.an->Option (M.aa×M.an)):aP K:={f:=104,sh:=⟨[.ptr 0 0,iq0],[.el U.cM]⟩,R:=M.aa×M.an,run:=fun x=>m x.1.2.1 x.2.1,dflt:=default,out:=fun r=>(Sh.enc D (.el U.Term) r.1,aR.encs D [.el U.cM] (r.2,()))}
def UC(m:Int->M.an->Option ((List M.aa)×M.an)):aP K:={f:=133,sh:=⟨[.ptr 0 0,iq0],[.el U.cM]⟩,R:=(List M.aa)×M.an,run:=fun x=>m x.1.2.1 x.2.1,dflt:=default,out:=fun r=>(Sh.enc D (.ax U.Term) r.1,aR.encs D [.el U.cM] (r.2,()))}
def UD(bK:Int->M.an->Option (M.aa×M.an)):Cx K:=bS [(45,.aY),(104,.aY),(42,.aY)] [lE M.dC,jq bK,l7 M.dt] []
theorem afX(bK:Int->M.an->Option (M.aa×M.an))(iD:aJ (jq bK)):aZ (UD bK):=bm aQ _ (ah l6 (ah iD (ah mU aI)))
theorem afY(bK:Int->M.an->Option (M.aa×M.an))(iD:aJ (jq bK)):aJ (UC (M.ya bK)):=jC (cx:=UD bK) (fz:=true) aQ (afX bK iD) dT ⟨Tryz.func133,by kernel_rfl⟩ hq ⟨⟨[.ax U.Term],[.el U.cM]⟩,fun x=>(x.1.1,x.2.1)⟩ (fun x=>rfl) (fun x=>by kernel_rfl)
def UE(m:(List UInt8)->Option Bool):aP K:=cB 131 zs2 (fun x=>m x.1.1)
def UF:Cx K:=bS [(132,.plain)] [Ip M.qA] []
theorem afZ:aZ UF:=bm aQ _ (ah Ug aI)
theorem af0:aJ (UE (M.xY)):=bj (cx:=UF) true afZ Tryz.func131 hq ⟨zs0,fun x=>x.1.1⟩ (fun x=>by kernel_rfl)
def Db(m:M.an->Option ((List UInt8)×M.an)):aP K:={f:=103,sh:=l4,R:=(List UInt8)×M.an,run:=fun x=>m x.2.1,dflt:=default,out:=fun r=>(Sh.enc D (.str) r.1,aR.encs D [.el U.cM] (r.2,()))}
def UG:Cx K:=bS [(22,.aY),(131,.plain),(43,.aY)] [uc M.ka,UE M.xY,nR M.fk] []
theorem af1:aZ UG:=bm aQ _ (ah wd (ah af0 (ah pI aI)))
theorem Iq:aJ (Db (M.lR)):=bj (cx:=UG) true af1 Tryz.func103 hq ⟨H6,fun x=>(x.1.1,x.2.1)⟩ (fun x=>by kernel_rfl)
def zp(m:Int->Int->M.an->Option (M.an)):aP K:={f:=134,sh:=⟨[.ptr 0 0,iq0,iq0],[.el U.cM]⟩,R:=M.an,run:=fun x=>m x.1.2.1 x.1.2.2.1 x.2.1,dflt:=default,out:=fun r=>(Sh.enc D (.bk []) (),aR.encs D [.el U.cM] (r,()))}
def UH:Cx K:=bS [(42,.aY)] [l7 M.dt] []
theorem af2:aZ UH:=bm aQ _ (ah mU aI)
theorem Dc:aJ (zp (M.jj)):=bj (cx:=UH) true af2 Tryz.func134 hq ⟨H5,fun x=>x.2.1⟩ (fun x=>by kernel_rfl)
def af4(y:(List M.ae)×Int×Bool×Int×(List UInt8)×(List (List UInt8))×(List M.aa)){R:Type}(k:KT R):R:=match y with|a0=>kk k (Ex.exit 0) RD ((),((a0.1,(a0.2.1,(a0.2.2.1,()))),((a0.2.2.2.1,(a0.2.2.2.2.1,((),((),())))),((),((),(a0.2.2.2.2.2.1,(a0.2.2.2.2.2.2,())))))))
def af5:List (dc K ((List M.ae)×Int×Bool×Int×(List UInt8)×(List (List UInt8))×(List M.aa))):=[⟨(Ex.exit 0),RD,fun x=>(x.2.1.1,x.2.1.2.1,x.2.1.2.2.1,x.2.2.1.1,x.2.2.1.2.1,x.2.2.2.2.2.1,x.2.2.2.2.2.2.1)⟩]
def UI(bK:Int->M.an->Option (M.aa×M.an)):bZ K:=cr D false 98 4 [0,1,2] [] RE (fun x=>M.jk bK x.1.2.2.1 x.2.2.1.1 x.2.2.1.2.1 ai x.2.1 x.2.2.2.2.2.1 x.2.2.2.2.2.2.1) af4
def UJ(m:Int->M.an->Int->(List UInt8)->(List (List UInt8))->(List M.aa)->Option (M.an×Int×(List UInt8)×(List (List UInt8))×(List M.aa))):aP K:={f:=135,sh:=⟨[.ptr 0 0,.ptr 1 0,iq0],[.el U.cM,.box [iq0,.str,.own 2,.own 3],.arr U.str,.arr U.Term]⟩,R:=M.an×Int×(List UInt8)×(List (List UInt8))×(List M.aa),run:=fun x=>m x.1.2.2.1 x.2.1 x.2.2.1.1 x.2.2.1.2.1 x.2.2.2.1 x.2.2.2.2.1,dflt:=default,out:=fun r=>(Sh.enc D (.bk []) (),aR.encs D [.el U.cM,.box [iq0,.str,.own 4,.own 5],.dead,.dead,.arr U.str,.arr U.Term] (r.1,((r.2.1,(r.2.2.1,((),((),())))),((),((),(r.2.2.2.1,(r.2.2.2.2,())))))))}
def Df(bK:Int->M.an->Option (M.aa×M.an)):Cx K:={eE with mode:=ef .plain [(42,.aY),(43,.aY),(104,.aY),(45,.aY),(134,.aY)],mv:=true,call:=callOf D [l7 M.dt,nR M.fk,jq bK,lE M.dC,zp M.jj],loop:=dP [(1,UI bK)]}
theorem UK(bK:Int->M.an->Option (M.aa×M.an))(iD:aJ (jq bK)):aZ (Df bK):=bm aQ _ (ah mU (ah pI (ah iD (ah l6 (ah Dc aI)))))
theorem af6(bK:Int->M.an->Option (M.aa×M.an))(iD:aJ (jq bK)):b9 (Df bK) (bR (bX Tryz.f135) 0) (UI bK):=lk (cx:=Df bK) (sh:=RE) (run:=fun n x=>M.jk bK x.1.2.2.1 x.2.2.1.1 x.2.2.1.2.1 n x.2.1 x.2.2.2.2.2.1 x.2.2.2.2.2.2.1) (cg:=af5) (UK bK iD) (fun m x=>by kernel_rfl) (ah ⟨cw,fun _ _ _=>rfl⟩ aI)
theorem af7(bK:Int->M.an->Option (M.aa×M.an))(iD:aJ (jq bK)):aJ (UJ (M.lS bK)):=jC (cx:=Df bK) (fz:=true) aQ (UK bK iD) dT ⟨Tryz.func135,by kernel_rfl⟩ (hl1 (af6 bK iD)) ⟨⟨[.bk []],[.el U.cM,.box [iq0,.str,.own 4,.own 5],.dead,.dead,.arr U.str,.arr U.Term]⟩,fun x=>(x.2.1,x.2.2.1.1,x.2.2.1.2.1,x.2.2.2.2.2.1,x.2.2.2.2.2.2.1)⟩ (fun x=>rfl) (fun x=>by kernel_rfl)
def af8(y:(List M.ae)×Int×Bool×Int×(List UInt8)×Int×(List UInt8)×(List (List UInt8))×(List M.aa)×(List (List UInt8))×(List M.aa)){R:Type}(k:KT R):R:=match y with|a0=>kk k (Ex.exit 1) RF (((),((),())),((a0.1,(a0.2.1,(a0.2.2.1,()))),((a0.2.2.2.1,(a0.2.2.2.2.1,((),((),())))),((a0.2.2.2.2.2.1,(a0.2.2.2.2.2.2.1,((),((),())))),((),((),((),((),(a0.2.2.2.2.2.2.2.1,(a0.2.2.2.2.2.2.2.2.1,(a0.2.2.2.2.2.2.2.2.2.1,(a0.2.2.2.2.2.2.2.2.2.2,()))))))))))))
def af9:List (dc K ((List M.ae)×Int×Bool×Int×(List UInt8)×Int×(List UInt8)×(List (List UInt8))×(List M.aa)×(List (List UInt8))×(List M.aa))):=[⟨(Ex.exit 1),RF,fun x=>(x.2.1.1,x.2.1.2.1,x.2.1.2.2.1,x.2.2.1.1,x.2.2.1.2.1,x.2.2.2.1.1,x.2.2.2.1.2.1,x.2.2.2.2.2.2.2.2.1,x.2.2.2.2.2.2.2.2.2.1,x.2.2.2.2.2.2.2.2.2.2.1,x.2.2.2.2.2.2.2.2.2.2.2.1)⟩]
def UL(bK:Int->M.an->Option (M.aa×M.an)):bZ K:=cr D false 101 7 [0,1,4,6] [4,6] RG (fun x=>M.pf bK x.1.2.1 x.2.2.1.1 x.2.2.1.2.1 x.2.2.2.1.1 x.2.2.2.1.2.1 x.2.2.2.2.2.2.2.2.1 x.2.2.2.2.2.2.2.2.2.1 x.2.2.2.2.2.2.2.2.2.2.1 ai x.2.1 x.2.2.2.2.2.2.2.2.2.2.2.1) af8
def Dh(bK:Int->M.an->Option (M.aa×M.an)):Cx K:=bS [(43,.aY),(132,.plain),(42,.aY),(104,.aY),(133,.aY),(45,.aY),(134,.aY),(103,.aY),(135,.aY)] [nR M.fk,Ip M.qA,l7 M.dt,jq bK,UC (M.ya bK),Db M.lR,UJ (M.lS bK),lE M.dC,zp M.jj] [(20,UL bK)]
theorem UM(bK:Int->M.an->Option (M.aa×M.an))(iD:aJ (jq bK)):aZ (Dh bK):=bm aQ _ (ah pI (ah Ug (ah mU (ah iD (ah (afY bK iD) (ah Iq (ah (af7 bK iD) (ah l6 (ah Dc aI)))))))))
theorem aga(bK:Int->M.an->Option (M.aa×M.an))(iD:aJ (jq bK)):b9 (Dh bK) (bR (bX Tryz.f104) 0) (UL bK):=lk (cx:=Dh bK) (sh:=RG) (run:=fun n x=>M.pf bK x.1.2.1 x.2.2.1.1 x.2.2.1.2.1 x.2.2.2.1.1 x.2.2.2.1.2.1 x.2.2.2.2.2.2.2.2.1 x.2.2.2.2.2.2.2.2.2.1 x.2.2.2.2.2.2.2.2.2.2.1 n x.2.1 x.2.2.2.2.2.2.2.2.2.2.2.1) (cg:=af9) (UM bK iD) (fun m x=>by kernel_rfl) (ah ⟨cw,fun _ _ _=>rfl⟩ aI)
theorem agb(bK:Int->M.an->Option (M.aa×M.an))(iD:aJ (jq bK)):aJ (jq (M.sB bK)):=jC (cx:=Dh bK) (fz:=true) aQ (UM bK iD) dT ⟨Tryz.func104,by kernel_rfl⟩ (hl1 (aga bK iD)) ⟨⟨[.el U.Term],[.el U.cM]⟩,fun x=>(x.1.1,x.2.1)⟩ (fun x=>rfl) (fun x=>by kernel_rfl)
theorem UN:∀n,aJ (jq (M.qD n))|0=>vq fun _=>rfl|n+1=>agb (M.qD n) (UN n)
theorem Ir:aJ (jq (M.qE)):=UN ai
def UO(m:M.aH->Option ((List UInt8))):aP K:=cS 31 ⟨[.el U.du],[]⟩ (fun x=>m x.1.1)
theorem agc:aJ (UO (M.yj)):=bj (cx:=iC) true iZ Tryz.func31 hq ⟨zs2,fun x=>x.1.1⟩ (fun x=>by kernel_rfl)
def agd(y:(List M.aC)×Int×Int×(List M.ak)×Int×Int×M.bf×M.aC×(List (List UInt8))×(List (List UInt8))×(List (List UInt8))×(List (List UInt8))){R:Type}(k:KT R):R:=match y with|a0=>kk k (Ex.exit 5) CL (((),((),((),((),((),((),(a0.1,(a0.2.1,(a0.2.2.1,(a0.2.2.2.1,(a0.2.2.2.2.1,(a0.2.2.2.2.2.1,())))))))))))),(a0.2.2.2.2.2.2.1,((),((),(a0.2.2.2.2.2.2.2.1,((),((),(a0.2.2.2.2.2.2.2.2.1,(a0.2.2.2.2.2.2.2.2.2.1,(a0.2.2.2.2.2.2.2.2.2.2.1,(a0.2.2.2.2.2.2.2.2.2.2.2,())))))))))))
def age:List (dc K ((List M.aC)×Int×Int×(List M.ak)×Int×Int×M.bf×M.aC×(List (List UInt8))×(List (List UInt8))×(List (List UInt8))×(List (List UInt8)))):=[⟨(Ex.exit 5),CL,fun x=>(x.1.2.2.2.2.2.2.1,x.1.2.2.2.2.2.2.2.1,x.1.2.2.2.2.2.2.2.2.1,x.1.2.2.2.2.2.2.2.2.2.1,x.1.2.2.2.2.2.2.2.2.2.2.1,x.1.2.2.2.2.2.2.2.2.2.2.2.1,x.2.1,x.2.2.2.2.1,x.2.2.2.2.2.2.2.1,x.2.2.2.2.2.2.2.2.1,x.2.2.2.2.2.2.2.2.2.1,x.2.2.2.2.2.2.2.2.2.2.1)⟩]
def UP:bZ K:=cr D false 96 6 [1,3,4,6,7,8,18,19,20,27,28,29,50,51,52] [1,3,4,6,7,8,18,19,20,27,28,29] RH (fun x=>M.vL x.1.2.2.2.2.2.2.1 x.1.2.2.2.2.2.2.2.1 x.1.2.2.2.2.2.2.2.2.1 x.1.2.2.2.2.2.2.2.2.2.1 x.1.2.2.2.2.2.2.2.2.2.2.1 x.1.2.2.2.2.2.2.2.2.2.2.2.1 x.1.2.2.2.2.2.2.2.2.2.2.2.2.1 x.1.2.2.2.2.2.2.2.2.2.2.2.2.2.1 x.2.1 x.2.2.2.2.1 x.2.2.2.2.2.2.2.1 x.2.2.2.2.2.2.2.2.1 x.2.2.2.2.2.2.2.2.2.1 ai x.1.2.2.2.2.2.2.2.2.2.2.2.2.2.2.1 x.2.2.2.2.2.2.2.2.2.2.1) agd
def agf(y:(List M.aC)×Int×Int×M.bf×M.aC×(List (List UInt8))×(List (List UInt8))×(List (List UInt8))×(List (List UInt8))){R:Type}(k:KT R):R:=match y with|a0=>kk k (Ex.exit 2) RI (((),((),((),((),((),((),(a0.1,(a0.2.1,(a0.2.2.1,()))))))))),(a0.2.2.2.1,((),((),(a0.2.2.2.2.1,((),((),(a0.2.2.2.2.2.1,(a0.2.2.2.2.2.2.1,(a0.2.2.2.2.2.2.2.1,(a0.2.2.2.2.2.2.2.2,())))))))))))
def agh:List (dc K ((List M.aC)×Int×Int×M.bf×M.aC×(List (List UInt8))×(List (List UInt8))×(List (List UInt8))×(List (List UInt8)))):=[⟨(Ex.exit 2),RI,fun x=>(x.1.2.2.2.2.2.2.1,x.1.2.2.2.2.2.2.2.1,x.1.2.2.2.2.2.2.2.2.1,x.2.1,x.2.2.2.2.1,x.2.2.2.2.2.2.2.1,x.2.2.2.2.2.2.2.2.1,x.2.2.2.2.2.2.2.2.2.1,x.2.2.2.2.2.2.2.2.2.2.1)⟩]
def UQ:bZ K:=cr D false 96 6 [1,3,4,6,7,8,18,19,20,27,28,29] [1,3,4,6,7,8,18,19,20] CL (fun x=>M.qN ai x.1.2.2.2.2.2.2.1 x.1.2.2.2.2.2.2.2.1 x.1.2.2.2.2.2.2.2.2.1 x.1.2.2.2.2.2.2.2.2.2.1 x.1.2.2.2.2.2.2.2.2.2.2.1 x.1.2.2.2.2.2.2.2.2.2.2.2.1 x.2.1 x.2.2.2.2.1 x.2.2.2.2.2.2.2.1 x.2.2.2.2.2.2.2.2.1 x.2.2.2.2.2.2.2.2.2.1 x.2.2.2.2.2.2.2.2.2.2.1) agf
def UR(y:Bool⊕(M.bf×(List (List UInt8))×(List (List UInt8)))){R:Type}(k:KT R):R:=match y with|.inl a0=>kk k Ex.ret Rb (((),((),((),(a0,())))),((),((),((),((),((),()))))))|.inr a1=>kk k (Ex.exit 0) Re (((),((),((),((),())))),(a1.1,((),((),(a1.2.1,(a1.2.2,()))))))
def US:List (dc K ((Bool)⊕(M.bf×(List (List UInt8))×(List (List UInt8))))):=[⟨Ex.ret,Rb,fun x=>.inl x.1.2.2.2.1⟩,⟨(Ex.exit 0),Re,fun x=>.inr ((x.2.1,x.2.2.2.2.1,x.2.2.2.2.2.1))⟩]
def UT:bZ K:=cr D false 96 3 [1,3,4,18,19,20] [1,3,4,2] RJ (fun x=>M.vO ai x.1.2.2.2.1 x.1.2.2.2.2.1 x.1.2.2.2.2.2.1 x.2.1 x.2.2.2.2.1 x.2.2.2.2.2.1) UR
def agi(y:(List (List UInt8))×(List (List UInt8))){R:Type}(k:KT R):R:=match y with|a0=>kk k (Ex.exit 7) RL (((),((),())),((),((),(a0.1,(a0.2,())))))
def agj:List (dc K ((List (List UInt8))×(List (List UInt8)))):=[⟨(Ex.exit 7),RL,fun x=>(x.2.2.2.1,x.2.2.2.2.1)⟩]
def UU:bZ K:=cr D false 96 2 [3,4,78,79,80] [3,4] RN (fun x=>M.vP x.1.2.2.1 x.1.2.2.2.1 x.2.2.2.1 ai x.1.2.2.2.2.1 x.2.2.2.2.1) agi
def P4(m:M.bf->Option Bool):aP K:=cB 13 ⟨[.el U.dw],[]⟩ (fun x=>m x.1.1)
def nS:Cx K:=bS [(31,.plain),(32,.plain)] [UO M.yj,F9 M.mC] [(15,UP),(7,UQ),(3,UT),(25,UU)]
theorem zq:aZ nS:=bm aQ _ (ah agc (ah YH aI))
theorem agk:b9 nS (bR (bR (bR (bX Tryz.f13) 0) 0) 0) UP:=lk (cx:=nS) (sh:=RH) (run:=fun n x=>M.vL x.1.2.2.2.2.2.2.1 x.1.2.2.2.2.2.2.2.1 x.1.2.2.2.2.2.2.2.2.1 x.1.2.2.2.2.2.2.2.2.2.1 x.1.2.2.2.2.2.2.2.2.2.2.1 x.1.2.2.2.2.2.2.2.2.2.2.2.1 x.1.2.2.2.2.2.2.2.2.2.2.2.2.1 x.1.2.2.2.2.2.2.2.2.2.2.2.2.2.1 x.2.1 x.2.2.2.2.1 x.2.2.2.2.2.2.2.1 x.2.2.2.2.2.2.2.2.1 x.2.2.2.2.2.2.2.2.2.1 n x.1.2.2.2.2.2.2.2.2.2.2.2.2.2.2.1 x.2.2.2.2.2.2.2.2.2.2.1) (cg:=age) zq (fun m x=>by kernel_rfl) (ah ⟨cw,fun _ _ _=>rfl⟩ aI)
theorem agl:b9 nS (bR (bR (bX Tryz.f13) 0) 0) UQ:=lk (cx:=nS) (sh:=CL) (run:=fun n x=>M.qN n x.1.2.2.2.2.2.2.1 x.1.2.2.2.2.2.2.2.1 x.1.2.2.2.2.2.2.2.2.1 x.1.2.2.2.2.2.2.2.2.2.1 x.1.2.2.2.2.2.2.2.2.2.2.1 x.1.2.2.2.2.2.2.2.2.2.2.2.1 x.2.1 x.2.2.2.2.1 x.2.2.2.2.2.2.2.1 x.2.2.2.2.2.2.2.2.1 x.2.2.2.2.2.2.2.2.2.1 x.2.2.2.2.2.2.2.2.2.2.1) (cg:=agh) zq (fun m x=>by kernel_rfl) (ah ⟨cw,fun _ _ _=>rfl⟩ aI) (hl:=(nt 1 (by kernel_rfl) (oP (.mk (by kernel_rfl) agk))))
theorem agm:b9 nS (bR (bX Tryz.f13) 0) UT:=lk (cx:=nS) (sh:=RJ) (run:=fun n x=>M.vO n x.1.2.2.2.1 x.1.2.2.2.2.1 x.1.2.2.2.2.2.1 x.2.1 x.2.2.2.2.1 x.2.2.2.2.2.1) (cg:=US) zq (fun m x=>by kernel_rfl) (ah ⟨ee,fun _ _ _=>rfl⟩ (ah ⟨cw,fun _ _ _=>rfl⟩ aI)) (hl:=(nt 1 (by kernel_rfl) (oP (.mk (by kernel_rfl) agl))))
theorem agn:b9 nS (bR (bX Tryz.f13) 1) UU:=lk (cx:=nS) (sh:=RN) (run:=fun n x=>M.vP x.1.2.2.1 x.1.2.2.2.1 x.2.2.2.1 n x.1.2.2.2.2.1 x.2.2.2.2.1) (cg:=agj) zq (fun m x=>by kernel_rfl) (ah ⟨cw,fun _ _ _=>rfl⟩ aI)
theorem adt:aJ (P4 (M.uw)):=bj (cx:=nS) true zq Tryz.func13 (hl2 agm agn) ⟨zs0,fun x=>x.1.1⟩ (fun x=>by kernel_rfl)
def Is(m:M.an->Option ((List UInt8)×M.an)):aP K:={f:=44,sh:=l4,R:=(List UInt8)×M.an,run:=fun x=>m x.2.1,dflt:=default,out:=fun r=>(Sh.enc D (.str) r.1,aR.encs D [.el U.cM] (r.2,()))}
def UW:Cx K:=bS [(22,.aY),(78,.plain),(77,.aY)] [uc M.ka,SS M.yZ,C9 M.oY] []
theorem agp:aZ UW:=bm aQ _ (ah wd (ah aeB (ah Io aI)))
theorem UX:aJ (Is (M.qC)):=bj (cx:=UW) true agp Tryz.func44 hq ⟨H6,fun x=>(x.1.1,x.2.1)⟩ (fun x=>by kernel_rfl)
def agq(y:(List M.ae)×Int×Bool×(List M.aA)){R:Type}(k:KT R):R:=match y with|a0=>kk k (Ex.exit 0) RO (((),()),((a0.1,(a0.2.1,(a0.2.2.1,()))),((),(a0.2.2.2,()))))
def agr:List (dc K ((List M.ae)×Int×Bool×(List M.aA))):=[⟨(Ex.exit 0),RO,fun x=>(x.2.1.1,x.2.1.2.1,x.2.1.2.2.1,x.2.2.2.1)⟩]
def UY:bZ K:=cr D false 35 2 [0,3] [3] RP (fun x=>M.lV ai x.2.1 x.2.2.2.1) agq
def UZ(m:M.an->Option ((List M.aA)×M.an)):aP K:={f:=130,sh:=l4,R:=(List M.aA)×M.an,run:=fun x=>m x.2.1,dflt:=default,out:=fun r=>(Sh.enc D (.ax U.df) r.1,aR.encs D [.el U.cM] (r.2,()))}
def Di:Cx K:=bS [(42,.aY),(45,.aY),(43,.aY),(104,.aY),(134,.aY)] [l7 M.dt,lE M.dC,nR M.fk,jq M.qE,zp M.jj] [(5,UY)]
theorem U0:aZ Di:=bm aQ _ (ah mU (ah l6 (ah pI (ah Ir (ah Dc aI)))))
theorem ags:b9 Di (bR (bX Tryz.f130) 0) UY:=lk (cx:=Di) (sh:=RP) (run:=fun n x=>M.lV n x.2.1 x.2.2.2.1) (cg:=agr) U0 (fun m x=>by kernel_rfl) (ah ⟨cw,fun _ _ _=>rfl⟩ aI)
theorem agt:aJ (UZ (M.ye)):=bj (cx:=Di) true U0 Tryz.func130 (hl1 ags) ⟨⟨[.ax U.df],[.el U.cM]⟩,fun x=>(x.1.1,x.2.1)⟩ (fun x=>by kernel_rfl)
def U1(m:(List UInt8)->M.an->Option (M.ak×M.an)):aP K:={f:=102,sh:=CJ,R:=M.ak×M.an,run:=fun x=>m x.1.2.1 x.2.1,dflt:=default,out:=fun r=>(Sh.enc D (.el U.Item) r.1,aR.encs D [.el U.cM] (r.2,()))}
def U2:Cx K:=bS [(45,.aY),(42,.aY),(130,.aY),(104,.aY)] [lE M.dC,l7 M.dt,UZ M.ye,jq M.qE] []
theorem agu:aZ U2:=bm aQ _ (ah l6 (ah mU (ah agt (ah Ir aI))))
theorem agv:aJ (U1 (M.yf)):=bj (cx:=U2) true agu Tryz.func102 hq ⟨H7,fun x=>(x.1.1,x.2.1)⟩ (fun x=>by kernel_rfl)
def It(m:M.an->Option (M.bh×M.an)):aP K:={f:=82,sh:=l4,R:=M.bh×M.an,run:=fun x=>m x.2.1,dflt:=default,out:=fun r=>(Sh.enc D (.el U.Path) r.1,aR.encs D [.el U.cM] (r.2,()))}
def U3:Cx K:=bS [(43,.aY),(45,.aY),(44,.aY)] [nR M.fk,lE M.dC,Is M.qC] []
theorem agw:aZ U3:=bm aQ _ (ah pI (ah l6 (ah UX aI)))
theorem U4:aJ (It (M.kO)):=bj (cx:=U3) true agw Tryz.func82 hq ⟨⟨[.el U.Path],[.el U.cM]⟩,fun x=>(x.1.1,x.2.1)⟩ (fun x=>by kernel_rfl)
def agx(y:(List M.ae)×Int×Bool×Int×(List UInt8)×Int×(List UInt8)×Bool×(List UInt8)×(List UInt8)×(List UInt8)×Int×(List UInt8)×Int×(List UInt8)×Bool×(List UInt8)×(List UInt8)×(List UInt8)×(List (List UInt8))×(List M.aa)×(List M.aA)×(List M.aH)×(List (List UInt8))×(List M.aa)×(List M.aA)×(List M.aH)){R:Type}(k:KT R):R:=match y with|a0=>kk k (Ex.exit 0) RQ (((),((),())),((a0.1,(a0.2.1,(a0.2.2.1,()))),((a0.2.2.2.1,(a0.2.2.2.2.1,(a0.2.2.2.2.2.1,(a0.2.2.2.2.2.2.1,((),((),((),(a0.2.2.2.2.2.2.2.1,(a0.2.2.2.2.2.2.2.2.1,(a0.2.2.2.2.2.2.2.2.2.1,(a0.2.2.2.2.2.2.2.2.2.2.1,((),())))))))))))),((a0.2.2.2.2.2.2.2.2.2.2.2.1,(a0.2.2.2.2.2.2.2.2.2.2.2.2.1,(a0.2.2.2.2.2.2.2.2.2.2.2.2.2.1,(a0.2.2.2.2.2.2.2.2.2.2.2.2.2.2.1,((),((),((),(a0.2.2.2.2.2.2.2.2.2.2.2.2.2.2.2.1,(a0.2.2.2.2.2.2.2.2.2.2.2.2.2.2.2.2.1,(a0.2.2.2.2.2.2.2.2.2.2.2.2.2.2.2.2.2.1,(a0.2.2.2.2.2.2.2.2.2.2.2.2.2.2.2.2.2.2.1,((),())))))))))))),((),((),((),((),((),((),((),((),(a0.2.2.2.2.2.2.2.2.2.2.2.2.2.2.2.2.2.2.2.1,(a0.2.2.2.2.2.2.2.2.2.2.2.2.2.2.2.2.2.2.2.2.1,(a0.2.2.2.2.2.2.2.2.2.2.2.2.2.2.2.2.2.2.2.2.2.1,(a0.2.2.2.2.2.2.2.2.2.2.2.2.2.2.2.2.2.2.2.2.2.2.1,(a0.2.2.2.2.2.2.2.2.2.2.2.2.2.2.2.2.2.2.2.2.2.2.2.1,(a0.2.2.2.2.2.2.2.2.2.2.2.2.2.2.2.2.2.2.2.2.2.2.2.2.1,(a0.2.2.2.2.2.2.2.2.2.2.2.2.2.2.2.2.2.2.2.2.2.2.2.2.2.1,(a0.2.2.2.2.2.2.2.2.2.2.2.2.2.2.2.2.2.2.2.2.2.2.2.2.2.2,()))))))))))))))))))))
def agy:List (dc K ((List M.ae)×Int×Bool×Int×(List UInt8)×Int×(List UInt8)×Bool×(List UInt8)×(List UInt8)×(List UInt8)×Int×(List UInt8)×Int×(List UInt8)×Bool×(List UInt8)×(List UInt8)×(List UInt8)×(List (List UInt8))×(List M.aa)×(List M.aA)×(List M.aH)×(List (List UInt8))×(List M.aa)×(List M.aA)×(List M.aH))):=[⟨(Ex.exit 0),RQ,fun x=>(x.2.1.1,x.2.1.2.1,x.2.1.2.2.1,x.2.2.1.1,x.2.2.1.2.1,x.2.2.1.2.2.1,x.2.2.1.2.2.2.1,x.2.2.1.2.2.2.2.2.2.2.1,x.2.2.1.2.2.2.2.2.2.2.2.1,x.2.2.1.2.2.2.2.2.2.2.2.2.1,x.2.2.1.2.2.2.2.2.2.2.2.2.2.1,x.2.2.2.1.1,x.2.2.2.1.2.1,x.2.2.2.1.2.2.1,x.2.2.2.1.2.2.2.1,x.2.2.2.1.2.2.2.2.2.2.2.1,x.2.2.2.1.2.2.2.2.2.2.2.2.1,x.2.2.2.1.2.2.2.2.2.2.2.2.2.1,x.2.2.2.1.2.2.2.2.2.2.2.2.2.2.1,x.2.2.2.2.2.2.2.2.2.2.2.2.1,x.2.2.2.2.2.2.2.2.2.2.2.2.2.1,x.2.2.2.2.2.2.2.2.2.2.2.2.2.2.1,x.2.2.2.2.2.2.2.2.2.2.2.2.2.2.2.1,x.2.2.2.2.2.2.2.2.2.2.2.2.2.2.2.2.1,x.2.2.2.2.2.2.2.2.2.2.2.2.2.2.2.2.2.1,x.2.2.2.2.2.2.2.2.2.2.2.2.2.2.2.2.2.2.1,x.2.2.2.2.2.2.2.2.2.2.2.2.2.2.2.2.2.2.2.1)⟩]
def U5:bZ K:=cr D false 39 11 [0,2,3] [2,3] RR (fun x=>M.kQ x.2.2.1.1 x.2.2.1.2.1 x.2.2.1.2.2.1 x.2.2.1.2.2.2.1 x.2.2.1.2.2.2.2.2.2.2.1 x.2.2.1.2.2.2.2.2.2.2.2.1 x.2.2.1.2.2.2.2.2.2.2.2.2.1 x.2.2.1.2.2.2.2.2.2.2.2.2.2.1 x.2.2.2.1.1 x.2.2.2.1.2.1 x.2.2.2.1.2.2.1 x.2.2.2.1.2.2.2.1 x.2.2.2.1.2.2.2.2.2.2.2.1 x.2.2.2.1.2.2.2.2.2.2.2.2.1 x.2.2.2.1.2.2.2.2.2.2.2.2.2.1 x.2.2.2.1.2.2.2.2.2.2.2.2.2.2.1 x.2.2.2.2.2.2.2.2.2.2.2.2.1 x.2.2.2.2.2.2.2.2.2.2.2.2.2.1 x.2.2.2.2.2.2.2.2.2.2.2.2.2.2.1 x.2.2.2.2.2.2.2.2.2.2.2.2.2.2.2.1 x.2.2.2.2.2.2.2.2.2.2.2.2.2.2.2.2.1 x.2.2.2.2.2.2.2.2.2.2.2.2.2.2.2.2.2.1 x.2.2.2.2.2.2.2.2.2.2.2.2.2.2.2.2.2.2.1 ai x.2.1 x.2.2.2.2.2.2.2.2.2.2.2.2.2.2.2.2.2.2.2.1) agx
def U6(m:M.an->Option (M.ak×M.an)):aP K:={f:=105,sh:=l4,R:=M.ak×M.an,run:=fun x=>m x.2.1,dflt:=default,out:=fun r=>(Sh.enc D (.el U.Item) r.1,aR.encs D [.el U.cM] (r.2,()))}
def Dj:Cx K:=bS [(82,.aY),(42,.aY),(103,.aY),(45,.aY),(134,.aY)] [It M.kO,l7 M.dt,Db M.lR,lE M.dC,zp M.jj] [(4,U5)]
theorem U7:aZ Dj:=bm aQ _ (ah U4 (ah mU (ah Iq (ah l6 (ah Dc aI)))))
theorem agz:b9 Dj (bR (bX Tryz.f105) 0) U5:=lk (cx:=Dj) (sh:=RR) (run:=fun n x=>M.kQ x.2.2.1.1 x.2.2.1.2.1 x.2.2.1.2.2.1 x.2.2.1.2.2.2.1 x.2.2.1.2.2.2.2.2.2.2.1 x.2.2.1.2.2.2.2.2.2.2.2.1 x.2.2.1.2.2.2.2.2.2.2.2.2.1 x.2.2.1.2.2.2.2.2.2.2.2.2.2.1 x.2.2.2.1.1 x.2.2.2.1.2.1 x.2.2.2.1.2.2.1 x.2.2.2.1.2.2.2.1 x.2.2.2.1.2.2.2.2.2.2.2.1 x.2.2.2.1.2.2.2.2.2.2.2.2.1 x.2.2.2.1.2.2.2.2.2.2.2.2.2.1 x.2.2.2.1.2.2.2.2.2.2.2.2.2.2.1 x.2.2.2.2.2.2.2.2.2.2.2.2.1 x.2.2.2.2.2.2.2.2.2.2.2.2.2.1 x.2.2.2.2.2.2.2.2.2.2.2.2.2.2.1 x.2.2.2.2.2.2.2.2.2.2.2.2.2.2.2.1 x.2.2.2.2.2.2.2.2.2.2.2.2.2.2.2.2.1 x.2.2.2.2.2.2.2.2.2.2.2.2.2.2.2.2.2.1 x.2.2.2.2.2.2.2.2.2.2.2.2.2.2.2.2.2.2.1 n x.2.1 x.2.2.2.2.2.2.2.2.2.2.2.2.2.2.2.2.2.2.2.1) (cg:=agy) U7 (fun m x=>by kernel_rfl) (ah ⟨cw,fun _ _ _=>rfl⟩ aI)
theorem agA:aJ (U6 (M.yg)):=bj (cx:=Dj) true U7 Tryz.func105 (hl1 agz) ⟨H7,fun x=>(x.1.1,x.2.1)⟩ (fun x=>by kernel_rfl)
def U8(m:M.an->Option (M.ak×M.an)):aP K:={f:=80,sh:=l4,R:=M.ak×M.an,run:=fun x=>m x.2.1,dflt:=default,out:=fun r=>(Sh.enc D (.el U.Item) r.1,aR.encs D [.el U.cM] (r.2,()))}
def U9:Cx K:=bS [(43,.aY),(45,.aY),(102,.aY),(103,.aY),(42,.aY),(104,.aY),(105,.aY)] [nR M.fk,lE M.dC,U1 M.yf,l7 M.dt,Db M.lR,jq M.qE,U6 M.yg] []
theorem agB:aZ U9:=bm aQ _ (ah pI (ah l6 (ah agv (ah mU (ah Iq (ah Ir (ah agA aI)))))))
theorem agC:aJ (U8 (M.yh)):=bj (cx:=U9) true agB Tryz.func80 hq ⟨H7,fun x=>(x.1.1,x.2.1)⟩ (fun x=>by kernel_rfl)
def agD(y:(List M.ae)×Int×Bool×(List UInt8)×(List UInt8)×(List M.ak)×(List M.ak)){R:Type}(k:KT R):R:=match y with|a0=>kk k (Ex.exit 0) RS (((),((),())),((a0.1,(a0.2.1,(a0.2.2.1,()))),((a0.2.2.2.1,((),())),((a0.2.2.2.2.1,((),())),((),((),(a0.2.2.2.2.2.1,(a0.2.2.2.2.2.2,()))))))))
def agE:List (dc K ((List M.ae)×Int×Bool×(List UInt8)×(List UInt8)×(List M.ak)×(List M.ak))):=[⟨(Ex.exit 0),RS,fun x=>(x.2.1.1,x.2.1.2.1,x.2.1.2.2.1,x.2.2.1.1,x.2.2.2.1.1,x.2.2.2.2.2.2.1,x.2.2.2.2.2.2.2.1)⟩]
def Va:bZ K:=cr D false 34 5 [0,2,3] [2,3] RU (fun x=>M.qG x.2.2.1.1 x.2.2.2.1.1 x.2.2.2.2.2.2.1 ai x.2.1 x.2.2.2.2.2.2.2.1) agD
def Vb(m:M.an->Option (M.aC×M.an)):aP K:={f:=46,sh:=l4,R:=M.aC×M.an,run:=fun x=>m x.2.1,dflt:=default,out:=fun r=>(Sh.enc D (.el U.cE) r.1,aR.encs D [.el U.cM] (r.2,()))}
def Dk:Cx K:=bS [(43,.aY),(42,.aY),(45,.aY),(80,.aY)] [nR M.fk,l7 M.dt,lE M.dC,U8 M.yh] [(3,Va)]
theorem Vd:aZ Dk:=bm aQ _ (ah pI (ah mU (ah l6 (ah agC aI))))
theorem agF:b9 Dk (bR (bX Tryz.f46) 0) Va:=lk (cx:=Dk) (sh:=RU) (run:=fun n x=>M.qG x.2.2.1.1 x.2.2.2.1.1 x.2.2.2.2.2.2.1 n x.2.1 x.2.2.2.2.2.2.2.1) (cg:=agE) Vd (fun m x=>by kernel_rfl) (ah ⟨cw,fun _ _ _=>rfl⟩ aI)
theorem agG:aJ (Vb (M.vI)):=bj (cx:=Dk) true Vd Tryz.func46 (hl1 agF) ⟨⟨[.el U.cE],[.el U.cM]⟩,fun x=>(x.1.1,x.2.1)⟩ (fun x=>by kernel_rfl)
def Ve(m:Option ((List (List UInt8)))):aP K:={f:=81,sh:=⟨[],[]⟩,R:=(List (List UInt8)),run:=fun x=>m,dflt:=default,out:=fun r=>(Sh.enc D (.ax U.str) r,aR.encs D [] ())}
theorem agH:aJ (Ve (M.nD)):=bj (cx:=iC) true iZ Tryz.func81 hq ⟨CH,fun x=>x.1.1⟩ (fun x=>by kernel_rfl)
def agI(y:M.an×(List UInt8)×(List UInt8)×M.aG×(List M.aG)×(List M.aG)){R:Type}(k:KT R):R:=match y with|a0=>kk k (Ex.exit 2) RV (((),((),((),((),())))),(a0.1,((a0.2.1,((),())),((a0.2.2.1,((),())),(a0.2.2.2.1,((),((),(a0.2.2.2.2.1,(a0.2.2.2.2.2,())))))))))
def agJ:List (dc K (M.an×(List UInt8)×(List UInt8)×M.aG×(List M.aG)×(List M.aG))):=[⟨(Ex.exit 2),RV,fun x=>(x.2.1,x.2.2.1.1,x.2.2.2.1.1,x.2.2.2.2.1,x.2.2.2.2.2.2.2.1,x.2.2.2.2.2.2.2.2.1)⟩]
def Vf:bZ K:=cr D false 71 6 [0,2,3,4,5] [0,2,3,4] RX (fun x=>M.jM x.2.2.1.1 x.2.2.2.1.1 x.2.2.2.2.2.2.2.1 x.2.2.2.2.2.2.2.2.1 ai x.1.2.2.2.2.1 x.2.1 x.2.2.2.2.1) agI
def agK(y:(List M.ae)×Int×Bool×(List UInt8)×(List UInt8)×(List M.aG)×(List M.aG)){R:Type}(k:KT R):R:=match y with|a0=>kk k (Ex.exit 0) RY (((),((),())),((a0.1,(a0.2.1,(a0.2.2.1,()))),((a0.2.2.2.1,((),())),((a0.2.2.2.2.1,((),())),((),((),(a0.2.2.2.2.2.1,(a0.2.2.2.2.2.2,()))))))))
def agL:List (dc K ((List M.ae)×Int×Bool×(List UInt8)×(List UInt8)×(List M.aG)×(List M.aG))):=[⟨(Ex.exit 0),RY,fun x=>(x.2.1.1,x.2.1.2.1,x.2.1.2.2.1,x.2.2.1.1,x.2.2.2.1.1,x.2.2.2.2.2.2.1,x.2.2.2.2.2.2.2.1)⟩]
def Vg:bZ K:=cr D false 71 5 [0,2,3] [2,3] RZ (fun x=>M.pq ai x.2.1 x.2.2.1.1 x.2.2.2.1.1 x.2.2.2.2.2.2.1 x.2.2.2.2.2.2.2.1) agK
def Vh(m:M.an->Option (M.aL×M.an)):aP K:={f:=47,sh:=l4,R:=M.aL×M.an,run:=fun x=>m x.2.1,dflt:=default,out:=fun r=>(Sh.enc D (.el U.cZ) r.1,aR.encs D [.el U.cM] (r.2,()))}
def wv:Cx K:=bS [(43,.aY),(42,.aY),(45,.aY),(81,.kZ),(82,.aY)] [nR M.fk,l7 M.dt,lE M.dC,Ve M.nD,It M.kO] [(7,Vf),(3,Vg)]
theorem Iu:aZ wv:=bm aQ _ (ah pI (ah mU (ah l6 (ah agH (ah U4 aI)))))
theorem agM:b9 wv (bR (bR (bX Tryz.f47) 0) 0) Vf:=lk (cx:=wv) (sh:=RX) (run:=fun n x=>M.jM x.2.2.1.1 x.2.2.2.1.1 x.2.2.2.2.2.2.2.1 x.2.2.2.2.2.2.2.2.1 n x.1.2.2.2.2.1 x.2.1 x.2.2.2.2.1) (cg:=agJ) Iu (fun m x=>by kernel_rfl) (ah ⟨cw,fun _ _ _=>rfl⟩ aI)
theorem agN:b9 wv (bR (bX Tryz.f47) 0) Vg:=lk (cx:=wv) (sh:=RZ) (run:=fun n x=>M.pq n x.2.1 x.2.2.1.1 x.2.2.2.1.1 x.2.2.2.2.2.2.1 x.2.2.2.2.2.2.2.1) (cg:=agL) Iu (fun m x=>by kernel_rfl) (ah ⟨cw,fun _ _ _=>rfl⟩ aI) (hl:=(nt 1 (by kernel_rfl) (oP (.mk (by kernel_rfl) agM))))
theorem agO:aJ (Vh (M.sG)):=bj (cx:=wv) true Iu Tryz.func47 (hl1 agN) ⟨⟨[.el U.cZ],[.el U.cM]⟩,fun x=>(x.1.1,x.2.1)⟩ (fun x=>by kernel_rfl)
def agP(y:(List M.ae)×Int×Bool×(List UInt8)×(List UInt8)×(List UInt8)×(List UInt8)×(List M.aC)×(List M.aL)×(List M.aC)×(List M.aL)){R:Type}(k:KT R):R:=match y with|a0=>kk k (Ex.exit 0) R7 (((),((),())),((a0.1,(a0.2.1,(a0.2.2.1,()))),((a0.2.2.2.1,(a0.2.2.2.2.1,((),((),())))),((a0.2.2.2.2.2.1,(a0.2.2.2.2.2.2.1,((),((),())))),((),((),((),((),(a0.2.2.2.2.2.2.2.1,(a0.2.2.2.2.2.2.2.2.1,(a0.2.2.2.2.2.2.2.2.2.1,(a0.2.2.2.2.2.2.2.2.2.2,()))))))))))))
def agQ:List (dc K ((List M.ae)×Int×Bool×(List UInt8)×(List UInt8)×(List UInt8)×(List UInt8)×(List M.aC)×(List M.aL)×(List M.aC)×(List M.aL))):=[⟨(Ex.exit 0),R7,fun x=>(x.2.1.1,x.2.1.2.1,x.2.1.2.2.1,x.2.2.1.1,x.2.2.1.2.1,x.2.2.2.1.1,x.2.2.2.1.2.1,x.2.2.2.2.2.2.2.2.1,x.2.2.2.2.2.2.2.2.2.1,x.2.2.2.2.2.2.2.2.2.2.1,x.2.2.2.2.2.2.2.2.2.2.2.1)⟩]
def Vi:bZ K:=cr D false 63 7 [0,2,3] [2,3] R9 (fun x=>M.jm x.2.2.1.1 x.2.2.1.2.1 x.2.2.2.1.1 x.2.2.2.1.2.1 x.2.2.2.2.2.2.2.2.1 x.2.2.2.2.2.2.2.2.2.1 ai x.2.1 x.2.2.2.2.2.2.2.2.2.2.1 x.2.2.2.2.2.2.2.2.2.2.2.1) agP
def Vj(m:M.an->Option (M.bf×M.an)):aP K:={f:=21,sh:=l4,R:=M.bf×M.an,run:=fun x=>m x.2.1,dflt:=default,out:=fun r=>(Sh.enc D (.el U.dw) r.1,aR.encs D [.el U.cM] (r.2,()))}
def Dl:Cx K:=bS [(42,.aY),(43,.aY),(44,.aY),(22,.aY),(45,.aY),(46,.aY),(47,.aY)] [l7 M.dt,nR M.fk,Is M.qC,uc M.ka,lE M.dC,Vb M.vI,Vh M.sG] [(6,Vi)]
theorem Vk:aZ Dl:=bm aQ _ (ah mU (ah pI (ah UX (ah wd (ah l6 (ah agG (ah agO aI)))))))
theorem agR:b9 Dl (bR (bX Tryz.f21) 0) Vi:=lk (cx:=Dl) (sh:=R9) (run:=fun n x=>M.jm x.2.2.1.1 x.2.2.1.2.1 x.2.2.2.1.1 x.2.2.2.1.2.1 x.2.2.2.2.2.2.2.2.1 x.2.2.2.2.2.2.2.2.2.1 n x.2.1 x.2.2.2.2.2.2.2.2.2.2.1 x.2.2.2.2.2.2.2.2.2.2.2.1) (cg:=agQ) Vk (fun m x=>by kernel_rfl) (ah ⟨cw,fun _ _ _=>rfl⟩ aI)
theorem abZ:aJ (Vj (M.vJ)):=bj (cx:=Dl) true Vk Tryz.func21 (hl1 agR) ⟨⟨[.el U.dw],[.el U.cM]⟩,fun x=>(x.1.1,x.2.1)⟩ (fun x=>by kernel_rfl)
def Vl(m:M.aH->Option ((List UInt8))):aP K:=cS 83 ⟨[.el U.du],[]⟩ (fun x=>m x.1.1)
theorem agS:aJ (Vl (M.yk)):=bj (cx:=iC) true iZ Tryz.func83 hq ⟨zs2,fun x=>x.1.1⟩ (fun x=>by kernel_rfl)
def agT(y:Int×M.aC×(List (List UInt8))×(List (List UInt8))){R:Type}(k:KT R):R:=match y with|a0=>kk k (Ex.exit 3) Si (((),((),((),(a0.1,())))),(a0.2.1,((),((),((),(a0.2.2.1,(a0.2.2.2,())))))))
def agU:List (dc K (Int×M.aC×(List (List UInt8))×(List (List UInt8)))):=[⟨(Ex.exit 3),Si,fun x=>(x.1.2.2.2.1,x.2.1,x.2.2.2.2.2.1,x.2.2.2.2.2.2.1)⟩]
def Vm:bZ K:=cr D false 60 4 [1,4,5,6,7,8] [1,4,5,6] Sj (fun x=>M.vM x.1.2.2.2.1 x.2.1 x.2.2.2.2.2.2.1 ai x.1.2.2.2.2.2.1 x.2.2.2.2.1 x.2.2.2.2.2.1) agT
def agV(y:(List (List UInt8))×(List (List UInt8))){R:Type}(k:KT R):R:=match y with|a0=>kk k (Ex.exit 0) CM (((),((),())),((),((),((),(a0.1,(a0.2,()))))))
def agW:List (dc K ((List (List UInt8))×(List (List UInt8)))):=[⟨(Ex.exit 0),CM,fun x=>(x.2.2.2.2.1,x.2.2.2.2.2.1)⟩]
def Vn:bZ K:=cr D false 60 3 [1,4,5,6] [4,5] Sl (fun x=>M.pt ai x.1.2.2.2.1 x.2.1 x.2.2.2.2.1 x.2.2.2.2.2.1) agV
def Vo(m:M.aC->Option ((List (List UInt8))×(List (List UInt8)))):aP K:={f:=48,sh:=⟨[.el U.cE],[]⟩,R:=(List (List UInt8))×(List (List UInt8)),run:=fun x=>m x.1.1,dflt:=default,out:=fun r=>(Sh.enc D (.bk [.ax U.str,.ax U.str]) (r.1,(r.2,())),aR.encs D [] ())}
def wx:Cx K:=bS [(83,.plain)] [Vl M.yk] [(15,Vm),(4,Vn)]
theorem Iw:aZ wx:=bm aQ _ (ah agS aI)
theorem agX:b9 wx (bR (bR (bX Tryz.f48) 0) 0) Vm:=lk (cx:=wx) (sh:=Sj) (run:=fun n x=>M.vM x.1.2.2.2.1 x.2.1 x.2.2.2.2.2.2.1 n x.1.2.2.2.2.2.1 x.2.2.2.2.1 x.2.2.2.2.2.1) (cg:=agU) Iw (fun m x=>by kernel_rfl) (ah ⟨cw,fun _ _ _=>rfl⟩ aI)
theorem agY:b9 wx (bR (bX Tryz.f48) 0) Vn:=lk (cx:=wx) (sh:=Sl) (run:=fun n x=>M.pt n x.1.2.2.2.1 x.2.1 x.2.2.2.2.1 x.2.2.2.2.2.1) (cg:=agW) Iw (fun m x=>by kernel_rfl) (ah ⟨cw,fun _ _ _=>rfl⟩ aI) (hl:=(nt 1 (by kernel_rfl) (oP (.mk (by kernel_rfl) agX))))
theorem agZ:aJ (Vo (M.yl)):=bj (cx:=wx) true Iw Tryz.func48 (hl1 agY) ⟨⟨[.bk [.ax U.str,.ax U.str]],[]⟩,fun x=>(x.1.1.1,x.1.1.2.1)⟩ (fun x=>by kernel_rfl)
def ag0(y:Bool⊕((List (List UInt8))×Int)){R:Type}(k:KT R):R:=match y with|.inl a0=>kk k Ex.ret ⟨[.any,.any,.bool],[]⟩ (((),((),(a0,()))),())|.inr a1=>kk k (Ex.exit 2) ⟨[.ax U.str,iq0,.any],[]⟩ ((a1.1,(a1.2,((),()))),())
def ag1:List (dc K ((Bool)⊕((List (List UInt8))×Int))):=[⟨Ex.ret,⟨[.any,.any,.bool],[]⟩,fun x=>.inl x.1.2.2.1⟩,⟨(Ex.exit 2),⟨[.ax U.str,iq0,.any],[]⟩,fun x=>.inr ((x.1.1,x.1.2.1))⟩]
def Vp:bZ K:=cr D false 25 0 [0,3,4] [0,3,2] CE (fun x=>M.sJ x.1.1 x.1.2.1 ai x.1.2.2.1) ag0
def Vq:bZ K:=cr D false 25 0 [0,3] [2] H4 (fun x=>M.sK ai x.1.1 x.1.2.1) mQ
def Vr(m:(List (List UInt8))->Option Bool):aP K:=cB 49 CH (fun x=>m x.1.1)
def wy:Cx K:=bS [] [] [(5,Vp),(2,Vq)]
theorem Ix:aZ wy:=bm aQ _ aI
theorem ag2:b9 wy (bR (bR (bX Tryz.f49) 0) 0) Vp:=lk (cx:=wy) (sh:=CE) (run:=fun n x=>M.sJ x.1.1 x.1.2.1 n x.1.2.2.1) (cg:=ag1) Ix (fun m x=>by kernel_rfl) (ah ⟨ee,fun _ _ _=>rfl⟩ (ah ⟨cw,fun _ _ _=>rfl⟩ aI))
theorem ag3:b9 wy (bR (bX Tryz.f49) 0) Vq:=lk (cx:=wy) (sh:=H4) (run:=fun n x=>M.sK n x.1.1 x.1.2.1) (cg:=mR) Ix (fun m x=>by kernel_rfl) (ah ⟨ee,fun _ _ _=>rfl⟩ (ah ⟨cw,fun _ _ _=>rfl⟩ aI)) (hl:=(nt 1 (by kernel_rfl) (oP (.mk (by kernel_rfl) ag2))))
theorem ag4:aJ (Vr (M.qJ)):=bj (cx:=wy) true Ix Tryz.func49 (hl1 ag3) ⟨zs0,fun x=>x.1.1⟩ (fun x=>by kernel_rfl)
def Vs:bZ K:=cr D false 66 3 [1,3,4,5] [1,3,4,2] CN (fun x=>M.vQ x.2.1 x.2.2.2.2.2.1 ai x.1.2.2.2.1 x.2.2.2.2.1) UR
def ag5(y:(List (List UInt8))×(List (List UInt8))){R:Type}(k:KT R):R:=match y with|a0=>kk k (Ex.exit 2) CM (((),((),())),((),((),((),(a0.1,(a0.2,()))))))
def ag6:List (dc K ((List (List UInt8))×(List (List UInt8)))):=[⟨(Ex.exit 2),CM,fun x=>(x.2.2.2.2.1,x.2.2.2.2.2.1)⟩]
def Vt:bZ K:=cr D false 66 3 [1,3,4,8] [3,4] CN (fun x=>M.vR x.2.1 x.2.2.2.2.1 ai x.1.2.2.2.1 x.2.2.2.2.2.1) ag5
def Vu(m:M.bf->Option Bool):aP K:=cB 23 ⟨[.el U.dw],[]⟩ (fun x=>m x.1.1)
def wz:Cx K:=bS [(48,.kZ),(49,.plain)] [Vo M.yl,Vr M.qJ] [(4,Vs),(11,Vt)]
theorem Iy:aZ wz:=bm aQ _ (ah agZ (ah ag4 aI))
theorem ag7:b9 wz (bR (bX Tryz.f23) 0) Vs:=lk (cx:=wz) (sh:=CN) (run:=fun n x=>M.vQ x.2.1 x.2.2.2.2.2.1 n x.1.2.2.2.1 x.2.2.2.2.1) (cg:=US) Iy (fun m x=>by kernel_rfl) (ah ⟨ee,fun _ _ _=>rfl⟩ (ah ⟨cw,fun _ _ _=>rfl⟩ aI))
theorem ag8:b9 wz (bR (bX Tryz.f23) 1) Vt:=lk (cx:=wz) (sh:=CN) (run:=fun n x=>M.vR x.2.1 x.2.2.2.2.1 n x.1.2.2.2.1 x.2.2.2.2.2.1) (cg:=ag6) Iy (fun m x=>by kernel_rfl) (ah ⟨cw,fun _ _ _=>rfl⟩ aI)
theorem ab1:aJ (Vu (M.vK)):=bj (cx:=wz) true Iy Tryz.func23 (hl2 ag7 ag8) ⟨zs0,fun x=>x.1.1⟩ (fun x=>by kernel_rfl)
def NJ(m:(List UInt8)->Option (M.bf×Int×Int)):aP K:={f:=9,sh:=zs2,R:=M.bf×Int×Int,run:=fun x=>m x.1.1,dflt:=default,out:=fun r=>(Sh.enc D (.bk [.el U.dw,iq0,iq0]) (r.1,(r.2.1,(r.2.2,()))),aR.encs D [] ())}
def NI:Cx K:=bS [(20,.kZ),(21,.aY),(22,.aY),(23,.plain)] [TJ M.xM,Vj M.vJ,uc M.ka,Vu M.vK] []
