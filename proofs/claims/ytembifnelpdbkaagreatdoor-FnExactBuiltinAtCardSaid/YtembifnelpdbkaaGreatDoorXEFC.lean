/-
  Part of the proof of the claim.
-/
import Derived.Test.YtembifnelpdbkaaGreatDoorXEFCa
import Derived.Test.YtembifnelpdbkaaGreatDoorXEFM
import Derived.Test.YtembifnelpdbkaaGreatDoorXEHdA
import Derived.Test.YtembifnelpdbkaaGreatDoorXEHd4
import Derived.Test.YtembifnelpdbkaaGreatDoorXEHdV
import Derived.Test.YtembifnelpdbkaaGreatDoorProg
set_option linter.unusedVariables false
set_option maxRecDepth 100000
open Go Go.Proofs
open Go.V
noncomputable section
theorem asD : dA (aaT (M.O9)):= fK (cx:=zF) true Kr Tryz.func89 (aV (aP 2 (by kernel_rfl) (lt_succ (bQ (.mk (by kernel_rfl) ahg)) (.mk (by kernel_rfl) ahh)))) ⟨⟨[.bool],[]⟩,fun x=>x.1.1⟩ (fun x=>by kernel_rfl)
def Aj (m:M.aN->Option ((List UInt8))):bC K:=cS 90 ⟨[.el U.bV],[]⟩ (fun x=>m x.1.1)
def aej : Cx K:=fG [] [] []
theorem anj : aG aej:=ai aQ _ aW
theorem I9 : dA (Aj (M.jV)):= fK (cx:=aej) true anj Tryz.func90 (aV (ah (by kernel_rfl))) ⟨⟨[.str],[]⟩,fun x=>x.1.1⟩ (fun x=>by kernel_rfl)
def aek (y:Bool⊕Unit) {R:Type} (k:KT R):R:=match y with | .inl a0=>kk k Ex.ret ⟨[.bool],[.dead]⟩ ((a0,()),((),())) | .inr a1=>kk k (Ex.exit 0) ⟨[.any],[.dead]⟩ (((),()),((),()))
def ahi : List (dm K ((Bool)⊕Unit)):=[⟨Ex.ret,⟨[.bool],[.dead]⟩,fun x=> .inl x.1.1⟩,⟨(Ex.exit 0),⟨[.any],[.dead]⟩,fun x=> .inr (())⟩]
def Tn : cZ K:=dn D false 25 1 [1,3] [2] ⟨[.ptr 0 0, .int .i64],[.el U.eQ]⟩ (fun x=>M.kK aA x.1.2.1 x.2.1) aek
def Vs (m:M.af->Option Bool):bC K:=cB 91 ⟨[.el U.eQ],[]⟩ (fun x=>m x.1.1)
def FM : Cx K:=fG [(136, .plain)] [mr M.oL] [(4,Tn)]
theorem Tq : aG FM:=ai aQ _ (aj Vt aW)
theorem ael : bG FM (bD (bI Tryz.f91) 0) Tn:= bn (cx:=FM) (sh:=⟨[.ptr 0 0, .int .i64],[.el U.eQ]⟩) (run:=fun n x=>M.kK n x.1.2.1 x.2.1) (di:=ahi) aQ Tq aH (ah (by kernel_rfl)) (fun _=>rfl) (fun m x=>by kernel_rfl) (aj ⟨dC,fun _ _ _=>rfl⟩ (aj ⟨bu,fun _ _ _=>rfl⟩ aW)) false aA
theorem aqb : dA (Vs (M.Kt)):= fK (cx:=FM) true Tq Tryz.func91 (aV (aP 1 (by kernel_rfl) (bQ (.mk (by kernel_rfl) ael)))) ⟨⟨[.bool],[]⟩,fun x=>x.1.1⟩ (fun x=>by kernel_rfl)
def Z8 (y:Bool⊕((List M.aN)×Int)) {R:Type} (k:KT R):R:=match y with | .inl a0=>kk k Ex.ret ⟨[.any, .any, .bool],[]⟩ (((),((),(a0,()))),()) | .inr a1=>kk k (Ex.exit 2) ⟨[.aZ U.bV, .int .i64, .any],[]⟩ ((a1.1,(a1.2,((),()))),())
def acR : List (dm K ((Bool)⊕((List M.aN)×Int))):=[⟨Ex.ret,⟨[.any, .any, .bool],[]⟩,fun x=> .inl x.1.2.2.1⟩,⟨(Ex.exit 2),⟨[.aZ U.bV, .int .i64, .any],[]⟩,fun x=> .inr ((x.1.1,x.1.2.1))⟩]
def MM : cZ K:=dn D false 59 0 [0,3,4] [0,3,2] ⟨[.aZ U.bV, .int .i64, .int .i64],[]⟩ (fun x=>M.lM x.1.1 x.1.2.1 aA x.1.2.2.1) Z8
def aem (y:Bool⊕Unit) {R:Type} (k:KT R):R:=match y with | .inl a0=>kk k Ex.ret ⟨[.bool],[]⟩ ((a0,()),()) | .inr a1=>kk k (Ex.exit 0) ⟨[.any],[]⟩ (((),()),())
def ahj : List (dm K ((Bool)⊕Unit)):=[⟨Ex.ret,⟨[.bool],[]⟩,fun x=> .inl x.1.1⟩,⟨(Ex.exit 0),⟨[.any],[]⟩,fun x=> .inr (())⟩]
def Tt : cZ K:=dn D false 59 0 [0,3] [2] ⟨[.aZ U.bV, .int .i64],[]⟩ (fun x=>M.kL aA x.1.1 x.1.2.1) aem
def Vu (m:(List M.aN)->Option Bool):bC K:=cB 52 ⟨[.aZ U.bV],[]⟩ (fun x=>m x.1.1)
def xO : Cx K:=fG [(89, .plain),(90, .plain),(91, .plain)] [aaT M.O9,Aj M.jV,Vs M.Kt] [(9,MM),(4,Tt)]
theorem Ij : aG xO:=ai aQ _ (aj asD (aj I9 (aj aqb aW)))
theorem Z9 : bG xO (bD (bD (bI Tryz.f52) 0) 0) MM:= bn (cx:=xO) (sh:=⟨[.aZ U.bV, .int .i64, .int .i64],[]⟩) (run:=fun n x=>M.lM x.1.1 x.1.2.1 n x.1.2.2.1) (di:=acR) aQ Ij aH (ah (by kernel_rfl)) (fun _=>rfl) (fun m x=>by kernel_rfl) (aj ⟨dC,fun _ _ _=>rfl⟩ (aj ⟨bu,fun _ _ _=>rfl⟩ aW)) false aA
theorem aen : bG xO (bD (bI Tryz.f52) 0) Tt:= bn (cx:=xO) (sh:=⟨[.aZ U.bV, .int .i64],[]⟩) (run:=fun n x=>M.kL n x.1.1 x.1.2.1) (di:=ahj) aQ Ij aH (aP 1 (by kernel_rfl) (bQ (.mk (by kernel_rfl) Z9))) (fun _=>rfl) (fun m x=>by kernel_rfl) (aj ⟨dC,fun _ _ _=>rfl⟩ (aj ⟨bu,fun _ _ _=>rfl⟩ aW)) false aA
theorem aqc : dA (Vu (M.ET)):= fK (cx:=xO) true Ij Tryz.func52 (aV (aP 1 (by kernel_rfl) (bQ (.mk (by kernel_rfl) aen)))) ⟨⟨[.bool],[]⟩,fun x=>x.1.1⟩ (fun x=>by kernel_rfl)
def RF (y:(Int×Bool)⊕Int) {R:Type} (k:KT R):R:=match y with | .inl a0=>kk k Ex.ret ⟨[.any, .int .i64, .bool],[]⟩ (((),(a0.1,(a0.2,()))),()) | .inr a1=>kk k (Ex.exit 0) ⟨[.int .i64, .any, .any],[]⟩ ((a1,((),((),()))),())
def U5 : List (dm K ((Int×Bool)⊕Int)):=[⟨Ex.ret,⟨[.any, .int .i64, .bool],[]⟩,fun x=> .inl (x.1.2.1,x.1.2.2.1)⟩,⟨(Ex.exit 0),⟨[.int .i64, .any, .any],[]⟩,fun x=> .inr (x.1.1)⟩]
def Gv : cZ K:=dn D false 39 0 [5,15,16,17] [5,2,3] ⟨[.int .i64, .aZ U.str, .int .i64, .int .i64],[]⟩ (fun x=>M.iO x.1.2.1 x.1.2.2.1 aA x.1.1 x.1.2.2.2.1) RF
def IJ (m:(List UInt8)->Option (Int×Bool)):bC K:={f:=65,sh:=⟨[.str],[]⟩,R:=Int×Bool,run:=fun x=>m x.1.1,dflt:=default,out:=fun r=>(Sh.enc D (.nS [.int .i64, .bool]) (r.1,(r.2,())),iY.encs D [] ())}
def wO : Cx K:=fG [(101, .iD),(102, .plain),(32, .plain)] [Dk M.strings_Split,Dl M.mD,kX M.yH] [(6,Gv)]
theorem Gw : aG wO:=ai aQ _ (aj ahk (aj ahl (aj oZ aW)))
theorem RG : bG wO (bD (bI Tryz.f65) 0) Gv:= bn (cx:=wO) (sh:=⟨[.int .i64, .aZ U.str, .int .i64, .int .i64],[]⟩) (run:=fun n x=>M.iO x.1.2.1 x.1.2.2.1 n x.1.1 x.1.2.2.2.1) (di:=U5) aQ Gw aH (ah (by kernel_rfl)) (fun _=>rfl) (fun m x=>by kernel_rfl) (aj ⟨dC,fun _ _ _=>rfl⟩ (aj ⟨bu,fun _ _ _=>rfl⟩ aW)) false aA
theorem acS : dA (IJ (M.xH)):= fK (cx:=wO) true Gw Tryz.func65 (aV (aP 1 (by kernel_rfl) (bQ (.mk (by kernel_rfl) RG)))) ⟨⟨[.nS [.int .i64, .bool]],[]⟩,fun x=>(x.1.1.1,x.1.1.2.1)⟩ (fun x=>by kernel_rfl)
def Ik (m:(List UInt8)->Option Bool):bC K:=cB 28 ⟨[.str],[]⟩ (fun x=>m x.1.1)
def Vw : Cx K:=fG [(65, .plain)] [IJ M.xH] []
theorem ahm : aG Vw:=ai aQ _ (aj acS aW)
theorem Vx : dA (Ik (M.yI)):= fK (cx:=Vw) true ahm Tryz.func28 (aV (ah (by kernel_rfl))) ⟨⟨[.bool],[]⟩,fun x=>x.1.1⟩ (fun x=>by kernel_rfl)
def aab (y:Bool⊕Unit) {R:Type} (k:KT R):R:=match y with | .inl a0=>kk k Ex.ret ⟨[.bool],[]⟩ ((a0,()),()) | .inr a1=>kk k (Ex.exit 0) ⟨[.any],[]⟩ (((),()),())
def acT : List (dm K ((Bool)⊕Unit)):=[⟨Ex.ret,⟨[.bool],[]⟩,fun x=> .inl x.1.1⟩,⟨(Ex.exit 0),⟨[.any],[]⟩,fun x=> .inr (())⟩]
def MN : cZ K:=dn D false 20 0 [0,3] [2] ⟨[.aZ U.str, .int .i64],[]⟩ (fun x=>M.lN x.1.1 aA x.1.2.1) aab
def EU (m:(List (List UInt8))->Option Bool):bC K:=cB 71 ⟨[.aZ U.str],[]⟩ (fun x=>m x.1.1)
def AZ : Cx K:=fG [] [] [(2,MN)]
theorem MO : aG AZ:=ai aQ _ aW
theorem aac : bG AZ (bD (bI Tryz.f71) 0) MN:= bn (cx:=AZ) (sh:=⟨[.aZ U.str, .int .i64],[]⟩) (run:=fun n x=>M.lN x.1.1 n x.1.2.1) (di:=acT) aQ MO aH (ah (by kernel_rfl)) (fun _=>rfl) (fun m x=>by kernel_rfl) (aj ⟨dC,fun _ _ _=>rfl⟩ (aj ⟨bu,fun _ _ _=>rfl⟩ aW)) false aA
theorem Tu : dA (EU (M.rX)):= fK (cx:=AZ) true MO Tryz.func71 (aV (aP 1 (by kernel_rfl) (bQ (.mk (by kernel_rfl) aac)))) ⟨⟨[.bool],[]⟩,fun x=>x.1.1⟩ (fun x=>by kernel_rfl)
def Tv (m:(List UInt8)->Option Bool):bC K:=cB 104 ⟨[.str],[]⟩ (fun x=>m x.1.1)
def Vy : Cx K:=fG [(27, .plain)] [wP M.ng] []
theorem ahn : aG Vy:=ai aQ _ (aj BU aW)
theorem ank : dA (Tv (M.Gx)):= fK (cx:=Vy) true ahn Tryz.func104 (aV (ah (by kernel_rfl))) ⟨⟨[.bool],[]⟩,fun x=>x.1.1⟩ (fun x=>by kernel_rfl)
def yx (y:Int⊕Unit) {R:Type} (k:KT R):R:=match y with | .inl a0=>kk k Ex.ret ⟨[.int .i64],[]⟩ ((a0,()),()) | .inr a1=>kk k (Ex.exit 0) ⟨[.any],[]⟩ (((),()),())
def yJ : List (dm K ((Int)⊕Unit)):=[⟨Ex.ret,⟨[.int .i64],[]⟩,fun x=> .inl x.1.1⟩,⟨(Ex.exit 0),⟨[.any],[]⟩,fun x=> .inr (())⟩]
def nU : cZ K:=dn D false 19 0 [0,1,7,8] [4] ⟨[.aZ U.str, .fn 104 [], .int .i64, .int .i64],[]⟩ (fun x=>M.dS x.1.1 x.1.2.2.1 aA x.1.2.2.2.1) yx
def oM (m:(List (List UInt8))->Option Int):bC K:=cI 147 ⟨[.aZ U.str, .fn 104 []],[]⟩ (fun x=>m x.1.1)
def iH : Cx K:=fG [(104, .plain)] [Tv M.Gx] [(2,nU)]
theorem nV : aG iH:=ai aQ _ (aj ank aW)
theorem yz : bG iH (bD (bI Tryz.f147) 0) nU:= bn (cx:=iH) (sh:=⟨[.aZ U.str, .fn 104 [], .int .i64, .int .i64],[]⟩) (run:=fun n x=>M.dS x.1.1 x.1.2.2.1 n x.1.2.2.2.1) (di:=yJ) aQ nV aH (ah (by kernel_rfl)) (fun _=>rfl) (fun m x=>by kernel_rfl) (aj ⟨dC,fun _ _ _=>rfl⟩ (aj ⟨bu,fun _ _ _=>rfl⟩ aW)) false aA
theorem Ak : dA (oM (M.jb)):= fK (cx:=iH) true nV Tryz.func147 (aV (aP 1 (by kernel_rfl) (bQ (.mk (by kernel_rfl) yz)))) ⟨⟨[.int .i64],[]⟩,fun x=>x.1.1⟩ (fun x=>by kernel_rfl)
def l9 (m:(List (List UInt8))->Option Bool):bC K:=cB 103 ⟨[.aZ U.str, .fn 104 []],[]⟩ (fun x=>m x.1.1)
def ni : Cx K:=fG [(147, .plain)] [oM M.jb] []
theorem yc : aG ni:=ai aQ _ (aj Ak aW)
theorem yK : dA (l9 (M.gI)):= fK (cx:=ni) true yc Tryz.func103 (aV (ah (by kernel_rfl))) ⟨⟨[.bool],[]⟩,fun x=>x.1.1⟩ (fun x=>by kernel_rfl)
def RH (m:M.ae->Option Bool):bC K:=cB 149 ⟨[.el U.Type],[]⟩ (fun x=>m x.1.1)
def ajN : Cx K:=fG [(183, .plain),(184, .plain),(185, .plain)] [yL M.asE,vT M.amZ,iI M.Zz] []
theorem aqd : aG ajN:=ai aQ _ (aj ayJ (aj awy (aj asF aW)))
theorem ajO : dA (RH (M.Ku)):= fK (cx:=ajN) true aqd Tryz.func149 (aV (ah (by kernel_rfl))) ⟨⟨[.bool],[]⟩,fun x=>x.1.1⟩ (fun x=>by kernel_rfl)
def aeo (y:Bool⊕((List M.az)×(List (List UInt8)))) {R:Type} (k:KT R):R:=match y with | .inl a0=>kk k Ex.ret ⟨[.any, .any, .bool],[.dead, .dead]⟩ (((),((),(a0,()))),((),((),()))) | .inr a1=>kk k (Ex.exit 0) ⟨[.aZ U.Param, .own 1, .any],[.dead, .arr U.str]⟩ ((a1.1,((),((),()))),((),(a1.2,())))
def aho : List (dm K ((Bool)⊕((List M.az)×(List (List UInt8))))):=[⟨Ex.ret,⟨[.any, .any, .bool],[.dead, .dead]⟩,fun x=> .inl x.1.2.2.1⟩,⟨(Ex.exit 0),⟨[.aZ U.Param, .own 1, .any],[.dead, .arr U.str]⟩,fun x=> .inr ((x.1.1,x.2.2.1))⟩]
def Tz : cZ K:=dn D false 41 1 [0,3,7,8,9] [0,3,2] ⟨[.aZ U.Param, .own 1, .aZ U.Param, .int .i64, .int .i64],[.dead, .arr U.str]⟩ (fun x=>M.o5 x.1.1 x.1.2.2.1 x.1.2.2.2.1 aA x.1.2.2.2.2.1 x.2.2.1) aeo
def Vz (m:(List M.az)->Option Bool):bC K:=cB 148 ⟨[.aZ U.Param],[]⟩ (fun x=>m x.1.1)
def FN : Cx K:=fG [(27, .plain),(149, .plain),(120, .plain),(78, .plain)] [wP M.ng,RH M.Ku,Ja M.aep,uT M.kY] [(3,Tz)]
theorem TA : aG FN:=ai aQ _ (aj BU (aj ajO (aj VA (aj FO aW))))
theorem aeq : bG FN (bD (bI Tryz.f148) 0) Tz:= bn (cx:=FN) (sh:=⟨[.aZ U.Param, .own 1, .aZ U.Param, .int .i64, .int .i64],[.dead, .arr U.str]⟩) (run:=fun n x=>M.o5 x.1.1 x.1.2.2.1 x.1.2.2.2.1 n x.1.2.2.2.2.1 x.2.2.1) (di:=aho) aQ TA aH (ah (by kernel_rfl)) (fun _=>rfl) (fun m x=>by kernel_rfl) (aj ⟨dC,fun _ _ _=>rfl⟩ (aj ⟨bu,fun _ _ _=>rfl⟩ aW)) false aA
theorem aqe : dA (Vz (M.Kv)):= fK (cx:=FN) true TA Tryz.func148 (aV (aP 1 (by kernel_rfl) (bQ (.mk (by kernel_rfl) aeq)))) ⟨⟨[.bool],[]⟩,fun x=>x.1.1⟩ (fun x=>by kernel_rfl)
def aer (m:M.af->Option Bool):bC K:=cB 105 ⟨[.el U.eQ],[]⟩ (fun x=>m x.1.1)
def ajP : Cx K:=fG [(148, .plain),(149, .plain),(113, .plain)] [Vz M.Kv,RH M.Ku,gZ M.lX] []
theorem aqf : aG ajP:=ai aQ _ (aj aqe (aj ajO (aj RJ aW)))
theorem aus : dA (aer (M.VB)):= fK (cx:=ajP) true aqf Tryz.func105 (aV (ah (by kernel_rfl))) ⟨⟨[.bool],[]⟩,fun x=>x.1.1⟩ (fun x=>by kernel_rfl)
def lQ (m:M.ae->Option ((List (List UInt8)))):bC K:={f:=150,sh:=⟨[.el U.Type],[]⟩,R:=(List (List UInt8)),run:=fun x=>m x.1.1,dflt:=default,out:=fun r=>(Sh.enc D (.own 0) (),iY.encs D [.arr U.str] (r,()))}
def acU (y:(List (List UInt8))) {R:Type} (k:KT R):R:=match y with |a0=>kk k (Ex.exit 0) ⟨[.own 1],[.dead, .arr U.str]⟩ (((),()),((),(a0,())))
def aes : List (dm K ((List (List UInt8)))):=[⟨(Ex.exit 0),⟨[.own 1],[.dead, .arr U.str]⟩,fun x=>x.2.2.1⟩]
def Pg (dB:M.ae->Option ((List (List UInt8)))):cZ K:=dn D false 33 1 [3,21,22,23] [3] ⟨[.own 1, .aZ U.Type, .int .i64, .int .i64],[.dead, .arr U.str]⟩ (fun x=>M.kZ dB x.1.2.1 x.1.2.2.1 aA x.1.2.2.2.1 x.2.2.1) acU
def Dn (dB:M.ae->Option ((List (List UInt8)))):Cx K:={cx0 with mode:=uX .plain [(150, .fresh)],rsl:=[[some U.str]],call:=callOf D [lQ dB],loop:=ry [(5,Pg dB)]}
theorem Ph (dB:M.ae->Option ((List (List UInt8)))) (ql:dA (lQ dB)):aG (Dn dB):=ai aQ _ (aj ql aW)
theorem acV (dB:M.ae->Option ((List (List UInt8)))) (ql:dA (lQ dB)):bG (Dn dB) (bD (bI Tryz.f150) 0) (Pg dB):= bn (cx:=Dn dB) (sh:=⟨[.own 1, .aZ U.Type, .int .i64, .int .i64],[.dead, .arr U.str]⟩) (run:=fun n x=>M.kZ dB x.1.2.1 x.1.2.2.1 n x.1.2.2.2.1 x.2.2.1) (di:=aes) aQ (Ph dB ql) aH (ah (by kernel_rfl)) (fun _=>rfl) (fun m x=>by kernel_rfl) (aj ⟨bu,fun _ _ _=>rfl⟩ aW) false aA
theorem ahp (dB:M.ae->Option ((List (List UInt8)))) (ql:dA (lQ dB)):dA (lQ (M.FP dB)):= uA (cx:=Dn dB) (fz:=false) aQ (Ph dB ql) aH ⟨Tryz.func150,by kernel_rfl⟩ (aV (aP 1 (by kernel_rfl) (bQ (.mk (by kernel_rfl) (acV dB ql))))) ⟨⟨[.own 0],[.arr U.str]⟩,fun x=>x.2.1⟩ (fun x=>rfl) (fun x=>by kernel_rfl)
theorem Pj : ∀n,dA (lQ (M.mF n)) |0=>qQ fun _=>rfl |n+1=>ahp (M.mF n) (Pj n)
theorem anl : dA (lQ (M.BV)):=Pj aA
def RN (y:(List (List UInt8))) {R:Type} (k:KT R):R:=match y with |a0=>kk k (Ex.exit 0) ⟨[.own 1],[.dead, .arr U.str]⟩ (((),()),((),(a0,())))
def U6 : List (dm K ((List (List UInt8)))):=[⟨(Ex.exit 0),⟨[.own 1],[.dead, .arr U.str]⟩,fun x=>x.2.2.1⟩]
def Gy : cZ K:=dn D false 23 1 [3,10,11,12] [3] ⟨[.own 1, .aZ U.Param, .int .i64, .int .i64],[.dead, .arr U.str]⟩ (fun x=>M.jU x.1.2.1 x.1.2.2.1 aA x.1.2.2.2.1 x.2.2.1) RN
def IK (m:M.af->Option ((List (List UInt8)))):bC K:={f:=106,sh:=⟨[.el U.eQ],[]⟩,R:=(List (List UInt8)),run:=fun x=>m x.1.1,dflt:=default,out:=fun r=>(Sh.enc D (.aZ U.str) r,iY.encs D [] ())}
def wQ : Cx K:=fG [(150, .fresh)] [lQ M.BV] [(3,Gy)]
theorem Gz : aG wQ:=ai aQ _ (aj anl aW)
theorem RP : bG wQ (bD (bI Tryz.f106) 0) Gy:= bn (cx:=wQ) (sh:=⟨[.own 1, .aZ U.Param, .int .i64, .int .i64],[.dead, .arr U.str]⟩) (run:=fun n x=>M.jU x.1.2.1 x.1.2.2.1 n x.1.2.2.2.1 x.2.2.1) (di:=U6) aQ Gz aH (ah (by kernel_rfl)) (fun _=>rfl) (fun m x=>by kernel_rfl) (aj ⟨bu,fun _ _ _=>rfl⟩ aW) false aA
theorem acW : dA (IK (M.xI)):= fK (cx:=wQ) true Gz Tryz.func106 (aV (aP 1 (by kernel_rfl) (bQ (.mk (by kernel_rfl) RP)))) ⟨⟨[.aZ U.str],[]⟩,fun x=>x.1.1⟩ (fun x=>by kernel_rfl)
def CS (y:Int⊕Unit) {R:Type} (k:KT R):R:=match y with | .inl a0=>kk k Ex.ret ⟨[.int .i64],[]⟩ ((a0,()),()) | .inr a1=>kk k (Ex.exit 0) ⟨[.any],[]⟩ (((),()),())
def Dp : List (dm K ((Int)⊕Unit)):=[⟨Ex.ret,⟨[.int .i64],[]⟩,fun x=> .inl x.1.1⟩,⟨(Ex.exit 0),⟨[.any],[]⟩,fun x=> .inr (())⟩]
def uB : cZ K:=dn D false 19 0 [0,1,7,8] [4] ⟨[.aZ U.str, .str, .int .i64, .int .i64],[]⟩ (fun x=>M.fP x.1.1 x.1.2.1 x.1.2.2.1 aA x.1.2.2.2.1) CS
def uU (m:(List (List UInt8))->(List UInt8)->Option Int):bC K:=cI 151 ⟨[.aZ U.str, .str],[]⟩ (fun x=>m x.1.1 x.1.2.1)
def jH : Cx K:=fG [] [] [(2,uB)]
theorem uC : aG jH:=ai aQ _ aW
theorem CU : bG jH (bD (bI Tryz.f151) 0) uB:= bn (cx:=jH) (sh:=⟨[.aZ U.str, .str, .int .i64, .int .i64],[]⟩) (run:=fun n x=>M.fP x.1.1 x.1.2.1 x.1.2.2.1 n x.1.2.2.2.1) (di:=Dp) aQ uC aH (ah (by kernel_rfl)) (fun _=>rfl) (fun m x=>by kernel_rfl) (aj ⟨dC,fun _ _ _=>rfl⟩ (aj ⟨bu,fun _ _ _=>rfl⟩ aW)) false aA
theorem GG : dA (uU (M.lg)):= fK (cx:=jH) true uC Tryz.func151 (aV (aP 1 (by kernel_rfl) (bQ (.mk (by kernel_rfl) CU)))) ⟨⟨[.int .i64],[]⟩,fun x=>x.1.1⟩ (fun x=>by kernel_rfl)
def kE (m:(List (List UInt8))->(List UInt8)->Option Bool):bC K:=cB 108 ⟨[.aZ U.str, .str],[]⟩ (fun x=>m x.1.1 x.1.2.1)
def rY : Cx K:=fG [(151, .plain)] [uU M.lg] []
theorem Bq : aG rY:=ai aQ _ (aj GG aW)
theorem rZ : dA (kE (M.eG)):= fK (cx:=rY) true Bq Tryz.func108 (aV (ah (by kernel_rfl))) ⟨⟨[.bool],[]⟩,fun x=>x.1.1⟩ (fun x=>by kernel_rfl)
def TB (m:(List UInt8)->M.aN->Option Bool):bC K:=cB 107 ⟨[.str, .rp U.bV 0],[]⟩ (fun x=>m x.1.1 x.1.2.1)
def VC : Cx K:=fG [(108, .plain)] [kE M.eG] []
theorem ahq : aG VC:=ai aQ _ (aj rZ aW)
theorem anm : dA (TB (M.GH)):= fK (cx:=VC) true ahq Tryz.func107 (aV (ah (by kernel_rfl))) ⟨⟨[.bool],[]⟩,fun x=>x.1.1⟩ (fun x=>by kernel_rfl)
def yA (y:Int⊕Unit) {R:Type} (k:KT R):R:=match y with | .inl a0=>kk k Ex.ret ⟨[.int .i64],[]⟩ ((a0,()),()) | .inr a1=>kk k (Ex.exit 0) ⟨[.any],[]⟩ (((),()),())
def yM : List (dm K ((Int)⊕Unit)):=[⟨Ex.ret,⟨[.int .i64],[]⟩,fun x=> .inl x.1.1⟩,⟨(Ex.exit 0),⟨[.any],[]⟩,fun x=> .inr (())⟩]
def nX : cZ K:=dn D false 19 0 [0,1,7,8] [4] ⟨[.aZ U.str, .fn 107 [.rp U.bV 0], .int .i64, .int .i64],[]⟩ (fun x=>M.dU x.1.1 x.1.2.1.1 x.1.2.2.1 aA x.1.2.2.2.1) yA
def oN (m:(List (List UInt8))->M.aN->Option Int):bC K:=cI 147 ⟨[.aZ U.str, .fn 107 [.rp U.bV 0]],[]⟩ (fun x=>m x.1.1 x.1.2.1.1)
def iJ : Cx K:=fG [(107, .plain)] [TB M.GH] [(2,nX)]
theorem nY : aG iJ:=ai aQ _ (aj anm aW)
theorem yB : bG iJ (bD (bI Tryz.f147) 0) nX:= bn (cx:=iJ) (sh:=⟨[.aZ U.str, .fn 107 [.rp U.bV 0], .int .i64, .int .i64],[]⟩) (run:=fun n x=>M.dU x.1.1 x.1.2.1.1 x.1.2.2.1 n x.1.2.2.2.1) (di:=yM) aQ nY aH (ah (by kernel_rfl)) (fun _=>rfl) (fun m x=>by kernel_rfl) (aj ⟨dC,fun _ _ _=>rfl⟩ (aj ⟨bu,fun _ _ _=>rfl⟩ aW)) false aA
theorem Am : dA (oN (M.jc)):= fK (cx:=iJ) true nY Tryz.func147 (aV (aP 1 (by kernel_rfl) (bQ (.mk (by kernel_rfl) yB)))) ⟨⟨[.int .i64],[]⟩,fun x=>x.1.1⟩ (fun x=>by kernel_rfl)
def mf (m:(List (List UInt8))->M.aN->Option Bool):bC K:=cB 103 ⟨[.aZ U.str, .fn 107 [.rp U.bV 0]],[]⟩ (fun x=>m x.1.1 x.1.2.1.1)
def ny : Cx K:=fG [(147, .plain)] [oN M.jc] []
theorem yf : aG ny:=ai aQ _ (aj Am aW)
theorem yN : dA (mf (M.gJ)):= fK (cx:=ny) true yf Tryz.func103 (aV (ah (by kernel_rfl))) ⟨⟨[.bool],[]⟩,fun x=>x.1.1⟩ (fun x=>by kernel_rfl)
def ald (y:Bool⊕((List (List UInt8)))) {R:Type} (k:KT R):R:=match y with | .inl a0=>kk k Ex.ret ⟨[.any, .bool],[.dead, .dead, .dead]⟩ (((),(a0,())),((),((),((),())))) | .inr a1=>kk k (Ex.exit 0) ⟨[.own 2, .any],[.dead, .dead, .arr U.str]⟩ (((),((),())),((),((),(a1,()))))
def ann : List (dm K ((Bool)⊕((List (List UInt8))))):=[⟨Ex.ret,⟨[.any, .bool],[.dead, .dead, .dead]⟩,fun x=> .inl x.1.2.1⟩,⟨(Ex.exit 0),⟨[.own 2, .any],[.dead, .dead, .arr U.str]⟩,fun x=> .inr (x.2.2.2.1)⟩]
def aaU : cZ K:=dn D false 74 2 [1,3,45,46,47] [3,2] ⟨[.ptr 0 0, .own 2, .aZ U.Func, .int .i64, .int .i64],[.el U.bV, .dead, .arr U.str]⟩ (fun x=>M.vU x.1.2.2.1 x.1.2.2.2.1 x.2.1 aA x.1.2.2.2.2.1 x.2.2.2.1) ald
def aet (m:M.aN->Option Bool):bC K:=cB 66 ⟨[.el U.bV],[]⟩ (fun x=>m x.1.1)
def MP : Cx K:=fG [(27, .plain),(28, .plain),(71, .plain),(103, .plain),(105, .plain),(106, .iD)] [wP M.ng,Ik M.yI,EU M.rX,l9 M.gI,aer M.VB,IK M.xI,mf M.gJ] [(7,aaU)]
theorem aaV : aG MP:=ai aQ _ (aj BU (aj Vx (aj Tu (aj yK (aj aus (aj acW (aj yN aW)))))))
theorem ale : bG MP (bD (bI Tryz.f66) 0) aaU:= bn (cx:=MP) (sh:=⟨[.ptr 0 0, .own 2, .aZ U.Func, .int .i64, .int .i64],[.el U.bV, .dead, .arr U.str]⟩) (run:=fun n x=>M.vU x.1.2.2.1 x.1.2.2.2.1 x.2.1 n x.1.2.2.2.2.1 x.2.2.2.1) (di:=ann) aQ aaV aH (ah (by kernel_rfl)) (fun _=>rfl) (fun m x=>by kernel_rfl) (aj ⟨dC,fun _ _ _=>rfl⟩ (aj ⟨bu,fun _ _ _=>rfl⟩ aW)) false aA
theorem aut : dA (aet (M.VD)):= fK (cx:=MP) true aaV Tryz.func66 (aV (aP 1 (by kernel_rfl) (bQ (.mk (by kernel_rfl) ale)))) ⟨⟨[.bool],[]⟩,fun x=>x.1.1⟩ (fun x=>by kernel_rfl)
def alf (y:(List M.ae)) {R:Type} (k:KT R):R:=match y with |a0=>kk k (Ex.exit 0) ⟨[.own 1],[.dead, .arr U.Type]⟩ (((),()),((),(a0,())))
def ano : List (dm K ((List M.ae))):=[⟨(Ex.exit 0),⟨[.own 1],[.dead, .arr U.Type]⟩,fun x=>x.2.2.1⟩]
def aaW : cZ K:=dn D false 21 1 [3,8,9,10] [3] ⟨[.own 1, .aZ U.Param, .int .i64, .int .i64],[.dead, .arr U.Type]⟩ (fun x=>M.nz x.1.2.1 x.1.2.2.1 aA x.1.2.2.2.1 x.2.2.1) alf
def RQ (m:M.af->Option ((List M.ae))):bC K:={f:=111,sh:=⟨[.el U.eQ],[]⟩,R:=(List M.ae),run:=fun x=>m x.1.1,dflt:=default,out:=fun r=>(Sh.enc D (.own 0) (),iY.encs D [.arr U.Type] (r,()))}
def MQ : Cx K:={cx0 with mode:=uX .plain [],rsl:=[[some U.Type]],call:=callOf D [],loop:=ry [(3,aaW)]}
theorem aaX : aG MQ:=ai aQ _ aW
theorem alg : bG MQ (bD (bI Tryz.f111) 0) aaW:= bn (cx:=MQ) (sh:=⟨[.own 1, .aZ U.Param, .int .i64, .int .i64],[.dead, .arr U.Type]⟩) (run:=fun n x=>M.nz x.1.2.1 x.1.2.2.1 n x.1.2.2.2.1 x.2.2.1) (di:=ano) aQ aaX aH (ah (by kernel_rfl)) (fun _=>rfl) (fun m x=>by kernel_rfl) (aj ⟨bu,fun _ _ _=>rfl⟩ aW) false aA
theorem ajQ : dA (RQ (M.Dq)):= fK (cx:=MQ) false aaX Tryz.func111 (aV (aP 1 (by kernel_rfl) (bQ (.mk (by kernel_rfl) alg)))) ⟨⟨[.own 0],[.arr U.Type]⟩,fun x=>x.2.1⟩ (fun x=>by kernel_rfl)
def Kw (m:M.ae->Option Bool):bC K:=cB 112 ⟨[.el U.Type],[]⟩ (fun x=>m x.1.1)
def MR : Cx K:=fG [(113, .plain)] [gZ M.lX] []
theorem aad : aG MR:=ai aQ _ (aj RJ aW)
theorem aeu : dA (Kw (M.yO)):= fK (cx:=MR) true aad Tryz.func112 (aV (ah (by kernel_rfl))) ⟨⟨[.bool],[]⟩,fun x=>x.1.1⟩ (fun x=>by kernel_rfl)
def Ap (y:Int⊕Unit) {R:Type} (k:KT R):R:=match y with | .inl a0=>kk k Ex.ret ⟨[.int .i64],[]⟩ ((a0,()),()) | .inr a1=>kk k (Ex.exit 0) ⟨[.any],[]⟩ (((),()),())
def Bv : List (dm K ((Int)⊕Unit)):=[⟨Ex.ret,⟨[.int .i64],[]⟩,fun x=> .inl x.1.1⟩,⟨(Ex.exit 0),⟨[.any],[]⟩,fun x=> .inr (())⟩]
def rf : cZ K:=dn D false 19 0 [0,1,7,8] [4] ⟨[.aZ U.Type, .fn 112 [], .int .i64, .int .i64],[]⟩ (fun x=>M.eU x.1.1 x.1.2.2.1 aA x.1.2.2.2.1) Ap
def su (m:(List M.ae)->Option Int):bC K:=cI 152 ⟨[.aZ U.Type, .fn 112 []],[]⟩ (fun x=>m x.1.1)
def jl : Cx K:=fG [(112, .plain)] [Kw M.yO] [(2,rf)]
theorem rq : aG jl:=ai aQ _ (aj aeu aW)
theorem Aq : bG jl (bD (bI Tryz.f152) 0) rf:= bn (cx:=jl) (sh:=⟨[.aZ U.Type, .fn 112 [], .int .i64, .int .i64],[]⟩) (run:=fun n x=>M.eU x.1.1 x.1.2.2.1 n x.1.2.2.2.1) (di:=Bv) aQ rq aH (ah (by kernel_rfl)) (fun _=>rfl) (fun m x=>by kernel_rfl) (aj ⟨dC,fun _ _ _=>rfl⟩ (aj ⟨bu,fun _ _ _=>rfl⟩ aW)) false aA
theorem EF : dA (su (M.jP)):= fK (cx:=jl) true rq Tryz.func152 (aV (aP 1 (by kernel_rfl) (bQ (.mk (by kernel_rfl) Aq)))) ⟨⟨[.int .i64],[]⟩,fun x=>x.1.1⟩ (fun x=>by kernel_rfl)
def pg (m:(List M.ae)->Option Bool):bC K:=cB 110 ⟨[.aZ U.Type, .fn 112 []],[]⟩ (fun x=>m x.1.1)
def qx : Cx K:=fG [(152, .plain)] [su M.jP] []
theorem zY : aG qx:=ai aQ _ (aj EF aW)
theorem Bz : dA (pg (M.iq)):= fK (cx:=qx) true zY Tryz.func110 (aV (ah (by kernel_rfl))) ⟨⟨[.bool],[]⟩,fun x=>x.1.1⟩ (fun x=>by kernel_rfl)
def TC (m:M.af->Option Bool):bC K:=cB 69 ⟨[.el U.eQ],[]⟩ (fun x=>m x.1.1)
def VE : Cx K:=fG [(111, .fresh),(110, .plain)] [RQ M.Dq,pg M.iq] []
theorem ahr : aG VE:=ai aQ _ (aj ajQ (aj Bz aW))
theorem anp : dA (TC (M.GI)):= fK (cx:=VE) true ahr Tryz.func69 (aV (ah (by kernel_rfl))) ⟨⟨[.bool],[]⟩,fun x=>x.1.1⟩ (fun x=>by kernel_rfl)
def Pm (m:M.aT->Option Bool):bC K:=cB 68 ⟨[.el U.Func],[]⟩ (fun x=>m x.1.1)
def TD : Cx K:=fG [(69, .plain)] [TC M.GI] []
theorem aev : aG TD:=ai aQ _ (aj anp aW)
theorem alh : dA (Pm (M.Dt)):= fK (cx:=TD) true aev Tryz.func68 (aV (ah (by kernel_rfl))) ⟨⟨[.bool],[]⟩,fun x=>x.1.1⟩ (fun x=>by kernel_rfl)
def CV (y:Int⊕Unit) {R:Type} (k:KT R):R:=match y with | .inl a0=>kk k Ex.ret ⟨[.int .i64],[]⟩ ((a0,()),()) | .inr a1=>kk k (Ex.exit 0) ⟨[.any],[]⟩ (((),()),())
def Du : List (dm K ((Int)⊕Unit)):=[⟨Ex.ret,⟨[.int .i64],[]⟩,fun x=> .inl x.1.1⟩,⟨(Ex.exit 0),⟨[.any],[]⟩,fun x=> .inr (())⟩]
def uD : cZ K:=dn D false 19 0 [0,1,7,8] [4] ⟨[.aZ U.Func, .fn 68 [], .int .i64, .int .i64],[]⟩ (fun x=>M.fQ x.1.1 x.1.2.2.1 aA x.1.2.2.2.1) CV
def uV (m:(List M.aT)->Option Int):bC K:=cI 109 ⟨[.aZ U.Func, .fn 68 []],[]⟩ (fun x=>m x.1.1)
def jI : Cx K:=fG [(68, .plain)] [Pm M.Dt] [(2,uD)]
theorem uF : aG jI:=ai aQ _ (aj alh aW)
theorem CW : bG jI (bD (bI Tryz.f109) 0) uD:= bn (cx:=jI) (sh:=⟨[.aZ U.Func, .fn 68 [], .int .i64, .int .i64],[]⟩) (run:=fun n x=>M.fQ x.1.1 x.1.2.2.1 n x.1.2.2.2.1) (di:=Du) aQ uF aH (ah (by kernel_rfl)) (fun _=>rfl) (fun m x=>by kernel_rfl) (aj ⟨dC,fun _ _ _=>rfl⟩ (aj ⟨bu,fun _ _ _=>rfl⟩ aW)) false aA
theorem GK : dA (uV (M.lh)):= fK (cx:=jI) true uF Tryz.func109 (aV (aP 1 (by kernel_rfl) (bQ (.mk (by kernel_rfl) CW)))) ⟨⟨[.int .i64],[]⟩,fun x=>x.1.1⟩ (fun x=>by kernel_rfl)
def ru (m:(List M.aT)->Option Bool):bC K:=cB 67 ⟨[.aZ U.Func, .fn 68 []],[]⟩ (fun x=>m x.1.1)
def sD : Cx K:=fG [(109, .plain)] [uV M.lh] []
theorem BA : aG sD:=ai aQ _ (aj GK aW)
theorem Dv : dA (ru (M.iM)):= fK (cx:=sD) true BA Tryz.func67 (aV (ah (by kernel_rfl))) ⟨⟨[.bool],[]⟩,fun x=>x.1.1⟩ (fun x=>by kernel_rfl)
def Dw (m:M.aN->Option ((List UInt8))):bC K:=cS 70 ⟨[.el U.bV],[]⟩ (fun x=>m x.1.1)
def aaY : Cx K:=fG [] [] []
theorem ali : aG aaY:=ai aQ _ aW
theorem OH : dA (Dw (M.oC)):= fK (cx:=aaY) true ali Tryz.func70 (aV (ah (by kernel_rfl))) ⟨⟨[.str],[]⟩,fun x=>x.1.1⟩ (fun x=>by kernel_rfl)
def ahs (y:Bool⊕((List M.aN)×(List (List UInt8)))) {R:Type} (k:KT R):R:=match y with | .inl a0=>kk k Ex.ret ⟨[.any, .any, .bool],[.dead, .dead]⟩ (((),((),(a0,()))),((),((),()))) | .inr a1=>kk k (Ex.exit 0) ⟨[.aZ U.bV, .own 1, .any],[.dead, .arr U.str]⟩ ((a1.1,((),((),()))),((),(a1.2,())))
def alj : List (dm K ((Bool)⊕((List M.aN)×(List (List UInt8))))):=[⟨Ex.ret,⟨[.any, .any, .bool],[.dead, .dead]⟩,fun x=> .inl x.1.2.2.1⟩,⟨(Ex.exit 0),⟨[.aZ U.bV, .own 1, .any],[.dead, .arr U.str]⟩,fun x=> .inr ((x.1.1,x.2.2.1))⟩]
def VF : cZ K:=dn D false 34 1 [0,3,7,8,9] [0,3,2] ⟨[.aZ U.bV, .own 1, .aZ U.bV, .int .i64, .int .i64],[.dead, .arr U.str]⟩ (fun x=>M.wR x.1.1 x.1.2.2.1 x.1.2.2.2.1 aA x.1.2.2.2.2.1 x.2.2.1) ahs
def aaZ (m:(List M.aN)->Option Bool):bC K:=cB 29 ⟨[.aZ U.bV],[]⟩ (fun x=>m x.1.1)
def Jb : Cx K:=fG [(66, .plain),(67, .plain),(70, .plain),(71, .plain)] [aet M.VD,ru M.iM,Dw M.oC,EU M.rX] [(3,VF)]
theorem VG : aG Jb:=ai aQ _ (aj aut (aj Dv (aj OH (aj Tu aW))))
theorem aht : bG Jb (bD (bI Tryz.f29) 0) VF:= bn (cx:=Jb) (sh:=⟨[.aZ U.bV, .own 1, .aZ U.bV, .int .i64, .int .i64],[.dead, .arr U.str]⟩) (run:=fun n x=>M.wR x.1.1 x.1.2.2.1 x.1.2.2.2.1 n x.1.2.2.2.2.1 x.2.2.1) (di:=alj) aQ VG aH (ah (by kernel_rfl)) (fun _=>rfl) (fun m x=>by kernel_rfl) (aj ⟨dC,fun _ _ _=>rfl⟩ (aj ⟨bu,fun _ _ _=>rfl⟩ aW)) false aA
theorem asG : dA (aaZ (M.JU)):= fK (cx:=Jb) true VG Tryz.func29 (aV (aP 1 (by kernel_rfl) (bQ (.mk (by kernel_rfl) aht)))) ⟨⟨[.bool],[]⟩,fun x=>x.1.1⟩ (fun x=>by kernel_rfl)
def aa0 (m:M.az->M.az->Option Bool):bC K:=cB 304 ⟨[.el U.Param, .el U.Param],[]⟩ (fun x=>m x.1.1 x.1.2.1)
def aew : Cx K:=fG [(262, .plain)] [lq M.Pn] []
theorem anq : aG aew:=ai aQ _ (aj ajR aW)
theorem asH : dA (aa0 (M.Po)):= fK (cx:=aew) true anq Tryz.func304 (aV (ah (by kernel_rfl))) ⟨⟨[.bool],[]⟩,fun x=>x.1.1⟩ (fun x=>by kernel_rfl)
def aex (y:Bool⊕Unit) {R:Type} (k:KT R):R:=match y with | .inl a0=>kk k Ex.ret ⟨[.bool],[]⟩ ((a0,()),()) | .inr a1=>kk k (Ex.exit 0) ⟨[.any],[]⟩ (((),()),())
def ahu : List (dm K ((Bool)⊕Unit)):=[⟨Ex.ret,⟨[.bool],[]⟩,fun x=> .inl x.1.1⟩,⟨(Ex.exit 0),⟨[.any],[]⟩,fun x=> .inr (())⟩]
def TE : cZ K:=dn D false 27 0 [0,1,5] [4] ⟨[.aZ U.Param, .aZ U.Param, .int .i64],[]⟩ (fun x=>M.tV x.1.1 x.1.2.1 aA x.1.2.2.1) aex
def VH (m:(List M.az)->(List M.az)->Option Bool):bC K:=cB 261 ⟨[.aZ U.Param, .aZ U.Param],[]⟩ (fun x=>m x.1.1 x.1.2.1)
def FQ : Cx K:=fG [(304, .plain)] [aa0 M.Po] [(4,TE)]
theorem TF : aG FQ:=ai aQ _ (aj asH aW)
theorem aey : bG FQ (bD (bI Tryz.f261) 0) TE:= bn (cx:=FQ) (sh:=⟨[.aZ U.Param, .aZ U.Param, .int .i64],[]⟩) (run:=fun n x=>M.tV x.1.1 x.1.2.1 n x.1.2.2.1) (di:=ahu) aQ TF aH (ah (by kernel_rfl)) (fun _=>rfl) (fun m x=>by kernel_rfl) (aj ⟨dC,fun _ _ _=>rfl⟩ (aj ⟨bu,fun _ _ _=>rfl⟩ aW)) false aA
theorem aqg : dA (VH (M.Ky)):= fK (cx:=FQ) true TF Tryz.func261 (aV (aP 1 (by kernel_rfl) (bQ (.mk (by kernel_rfl) aey)))) ⟨⟨[.bool],[]⟩,fun x=>x.1.1⟩ (fun x=>by kernel_rfl)
def Pq (m:M.af->M.af->Option Bool):bC K:=cB 201 ⟨[.el U.eQ, .el U.eQ],[]⟩ (fun x=>m x.1.1 x.1.2.1)
def TG : Cx K:=fG [(261, .plain),(262, .plain)] [VH M.Ky,lq M.Pn] []
theorem aez : aG TG:=ai aQ _ (aj aqg (aj ajR aW))
theorem alk : dA (Pq (M.Dx)):= fK (cx:=TG) true aez Tryz.func201 (aV (ah (by kernel_rfl))) ⟨⟨[.bool],[]⟩,fun x=>x.1.1⟩ (fun x=>by kernel_rfl)
def aeA (m:M.aT->M.aT->Option Bool):bC K:=cB 164 ⟨[.el U.Func, .el U.Func],[]⟩ (fun x=>m x.1.1 x.1.2.1)
def ajS : Cx K:=fG [(201, .plain)] [Pq M.Dx] []
theorem aqh : aG ajS:=ai aQ _ (aj alk aW)
theorem auu : dA (aeA (M.VI)):= fK (cx:=ajS) true aqh Tryz.func164 (aV (ah (by kernel_rfl))) ⟨⟨[.bool],[]⟩,fun x=>x.1.1⟩ (fun x=>by kernel_rfl)
def ahv (y:Bool⊕Unit) {R:Type} (k:KT R):R:=match y with | .inl a0=>kk k Ex.ret ⟨[.bool],[]⟩ ((a0,()),()) | .inr a1=>kk k (Ex.exit 0) ⟨[.any],[]⟩ (((),()),())
def alm : List (dm K ((Bool)⊕Unit)):=[⟨Ex.ret,⟨[.bool],[]⟩,fun x=> .inl x.1.1⟩,⟨(Ex.exit 0),⟨[.any],[]⟩,fun x=> .inr (())⟩]
def VJ : cZ K:=dn D false 27 0 [0,1,5] [4] ⟨[.aZ U.Func, .aZ U.Func, .int .i64],[]⟩ (fun x=>M.wS x.1.1 x.1.2.1 aA x.1.2.2.1) ahv
def aa1 (m:(List M.aT)->(List M.aT)->Option Bool):bC K:=cB 128 ⟨[.aZ U.Func, .aZ U.Func],[]⟩ (fun x=>m x.1.1 x.1.2.1)
def Jc : Cx K:=fG [(164, .plain)] [aeA M.VI] [(4,VJ)]
theorem VK : aG Jc:=ai aQ _ (aj auu aW)
theorem ahw : bG Jc (bD (bI Tryz.f128) 0) VJ:= bn (cx:=Jc) (sh:=⟨[.aZ U.Func, .aZ U.Func, .int .i64],[]⟩) (run:=fun n x=>M.wS x.1.1 x.1.2.1 n x.1.2.2.1) (di:=alm) aQ VK aH (ah (by kernel_rfl)) (fun _=>rfl) (fun m x=>by kernel_rfl) (aj ⟨dC,fun _ _ _=>rfl⟩ (aj ⟨bu,fun _ _ _=>rfl⟩ aW)) false aA
theorem asI : dA (aa1 (M.Pv)):= fK (cx:=Jc) true VK Tryz.func128 (aV (aP 1 (by kernel_rfl) (bQ (.mk (by kernel_rfl) ahw)))) ⟨⟨[.bool],[]⟩,fun x=>x.1.1⟩ (fun x=>by kernel_rfl)
def aeB (m:M.aN->M.aN->Option Bool):bC K:=cB 79 ⟨[.el U.bV, .el U.bV],[]⟩ (fun x=>m x.1.1 x.1.2.1)
def ajT : Cx K:=fG [(127, .plain),(128, .plain)] [Il M.yP,aa1 M.Pv] []
theorem aqi : aG ajT:=ai aQ _ (aj VL (aj asI aW))
theorem auv : dA (aeB (M.VM)):= fK (cx:=ajT) true aqi Tryz.func79 (aV (ah (by kernel_rfl))) ⟨⟨[.bool],[]⟩,fun x=>x.1.1⟩ (fun x=>by kernel_rfl)
def ahx (y:Bool⊕Unit) {R:Type} (k:KT R):R:=match y with | .inl a0=>kk k Ex.ret ⟨[.bool],[]⟩ ((a0,()),()) | .inr a1=>kk k (Ex.exit 0) ⟨[.any],[]⟩ (((),()),())
def aln : List (dm K ((Bool)⊕Unit)):=[⟨Ex.ret,⟨[.bool],[]⟩,fun x=> .inl x.1.1⟩,⟨(Ex.exit 0),⟨[.any],[]⟩,fun x=> .inr (())⟩]
def VN : cZ K:=dn D false 27 0 [0,1,5] [4] ⟨[.aZ U.bV, .aZ U.bV, .int .i64],[]⟩ (fun x=>M.wU x.1.1 x.1.2.1 aA x.1.2.2.1) ahx
def aa2 (m:(List M.aN)->(List M.aN)->Option Bool):bC K:=cB 37 ⟨[.aZ U.bV, .aZ U.bV],[]⟩ (fun x=>m x.1.1 x.1.2.1)
def Jd : Cx K:=fG [(79, .plain)] [aeB M.VM] [(4,VN)]
theorem VO : aG Jd:=ai aQ _ (aj auv aW)
theorem ahy : bG Jd (bD (bI Tryz.f37) 0) VN:= bn (cx:=Jd) (sh:=⟨[.aZ U.bV, .aZ U.bV, .int .i64],[]⟩) (run:=fun n x=>M.wU x.1.1 x.1.2.1 n x.1.2.2.1) (di:=aln) aQ VO aH (ah (by kernel_rfl)) (fun _=>rfl) (fun m x=>by kernel_rfl) (aj ⟨dC,fun _ _ _=>rfl⟩ (aj ⟨bu,fun _ _ _=>rfl⟩ aW)) false aA
theorem asJ : dA (aa2 (M.JV)):= fK (cx:=Jd) true VO Tryz.func37 (aV (aP 1 (by kernel_rfl) (bQ (.mk (by kernel_rfl) ahy)))) ⟨⟨[.bool],[]⟩,fun x=>x.1.1⟩ (fun x=>by kernel_rfl)
def aeC (m:M.dG->Int->Option Int):bC K:=cI 47 ⟨[.el U.qZ, .int .i64],[]⟩ (fun x=>m x.1.1 x.1.2.1)
def ajU : Cx K:=fG [] [] []
theorem aqj : aG ajU:=ai aQ _ aW
theorem auw : dA (aeC (M.VP)):= fK (cx:=ajU) true aqj Tryz.func47 (aV (ah (by kernel_rfl))) ⟨⟨[.int .i64],[]⟩,fun x=>x.1.1⟩ (fun x=>by kernel_rfl)
def ahz (y:Int⊕Int) {R:Type} (k:KT R):R:=match y with | .inl a0=>kk k Ex.ret ⟨[.any, .int .i64],[]⟩ (((),(a0,())),()) | .inr a1=>kk k (Ex.exit 0) ⟨[.int .i64, .any],[]⟩ ((a1,((),())),())
def alo : List (dm K ((Int)⊕Int)):=[⟨Ex.ret,⟨[.any, .int .i64],[]⟩,fun x=> .inl x.1.2.1⟩,⟨(Ex.exit 0),⟨[.int .i64, .any],[]⟩,fun x=> .inr (x.1.1)⟩]
def VQ : cZ K:=dn D false 27 0 [0,1,5] [1,4] ⟨[.aZ U.qZ, .int .i64, .int .i64],[]⟩ (fun x=>M.wV x.1.1 aA x.1.2.1 x.1.2.2.1) ahz
def aa3 (m:(List M.dG)->Int->Option Int):bC K:=cI 18 ⟨[.aZ U.qZ, .int .i64],[]⟩ (fun x=>m x.1.1 x.1.2.1)
def Je : Cx K:=fG [(47, .plain)] [aeC M.VP] [(5,VQ)]
theorem VR : aG Je:=ai aQ _ (aj auw aW)
theorem ahA : bG Je (bD (bI Tryz.f18) 0) VQ:= bn (cx:=Je) (sh:=⟨[.aZ U.qZ, .int .i64, .int .i64],[]⟩) (run:=fun n x=>M.wV x.1.1 n x.1.2.1 x.1.2.2.1) (di:=alo) aQ VR aH (ah (by kernel_rfl)) (fun _=>rfl) (fun m x=>by kernel_rfl) (aj ⟨dC,fun _ _ _=>rfl⟩ (aj ⟨bu,fun _ _ _=>rfl⟩ aW)) false aA
theorem asK : dA (aa3 (M.Px)):= fK (cx:=Je) true VR Tryz.func18 (aV (aP 1 (by kernel_rfl) (bQ (.mk (by kernel_rfl) ahA)))) ⟨⟨[.int .i64],[]⟩,fun x=>x.1.1⟩ (fun x=>by kernel_rfl)
def aa4 (m:M.bK->Int->Option Int):bC K:=cI 48 ⟨[.el U.Lower, .int .i64],[]⟩ (fun x=>m x.1.1 x.1.2.1)
def aeD : Cx K:=fG [] [] []
theorem anr : aG aeD:=ai aQ _ aW
theorem asL : dA (aa4 (M.Py)):= fK (cx:=aeD) true anr Tryz.func48 (aV (ah (by kernel_rfl))) ⟨⟨[.int .i64],[]⟩,fun x=>x.1.1⟩ (fun x=>by kernel_rfl)
def aeE (y:Int⊕Int) {R:Type} (k:KT R):R:=match y with | .inl a0=>kk k Ex.ret ⟨[.any, .int .i64],[]⟩ (((),(a0,())),()) | .inr a1=>kk k (Ex.exit 0) ⟨[.int .i64, .any],[]⟩ ((a1,((),())),())
def ahB : List (dm K ((Int)⊕Int)):=[⟨Ex.ret,⟨[.any, .int .i64],[]⟩,fun x=> .inl x.1.2.1⟩,⟨(Ex.exit 0),⟨[.int .i64, .any],[]⟩,fun x=> .inr (x.1.1)⟩]
def TI : cZ K:=dn D false 27 0 [0,1,5] [1,4] ⟨[.aZ U.Lower, .int .i64, .int .i64],[]⟩ (fun x=>M.tX x.1.1 aA x.1.2.1 x.1.2.2.1) aeE
def VS (m:(List M.bK)->Int->Option Int):bC K:=cI 19 ⟨[.aZ U.Lower, .int .i64],[]⟩ (fun x=>m x.1.1 x.1.2.1)
def FT : Cx K:=fG [(48, .plain)] [aa4 M.Py] [(5,TI)]
theorem TJ : aG FT:=ai aQ _ (aj asL aW)
theorem aeF : bG FT (bD (bI Tryz.f19) 0) TI:= bn (cx:=FT) (sh:=⟨[.aZ U.Lower, .int .i64, .int .i64],[]⟩) (run:=fun n x=>M.tX x.1.1 n x.1.2.1 x.1.2.2.1) (di:=ahB) aQ TJ aH (ah (by kernel_rfl)) (fun _=>rfl) (fun m x=>by kernel_rfl) (aj ⟨dC,fun _ _ _=>rfl⟩ (aj ⟨bu,fun _ _ _=>rfl⟩ aW)) false aA
theorem aqk : dA (VS (M.Kz)):= fK (cx:=FT) true TJ Tryz.func19 (aV (aP 1 (by kernel_rfl) (bQ (.mk (by kernel_rfl) aeF)))) ⟨⟨[.int .i64],[]⟩,fun x=>x.1.1⟩ (fun x=>by kernel_rfl)
def TK (m:M.aK->Int->Option Int):bC K:=cI 49 ⟨[.el U.Builtin, .int .i64],[]⟩ (fun x=>m x.1.1 x.1.2.1)
def VT : Cx K:=fG [] [] []
theorem ahC : aG VT:=ai aQ _ aW
theorem ant : dA (TK (M.GL)):= fK (cx:=VT) true ahC Tryz.func49 (aV (ah (by kernel_rfl))) ⟨⟨[.int .i64],[]⟩,fun x=>x.1.1⟩ (fun x=>by kernel_rfl)
def aae (y:Int⊕Int) {R:Type} (k:KT R):R:=match y with | .inl a0=>kk k Ex.ret ⟨[.any, .int .i64],[]⟩ (((),(a0,())),()) | .inr a1=>kk k (Ex.exit 0) ⟨[.int .i64, .any],[]⟩ ((a1,((),())),())
def acX : List (dm K ((Int)⊕Int)):=[⟨Ex.ret,⟨[.any, .int .i64],[]⟩,fun x=> .inl x.1.2.1⟩,⟨(Ex.exit 0),⟨[.int .i64, .any],[]⟩,fun x=> .inr (x.1.1)⟩]
def MS : cZ K:=dn D false 27 0 [0,1,5] [1,4] ⟨[.aZ U.Builtin, .int .i64, .int .i64],[]⟩ (fun x=>M.oG x.1.1 aA x.1.2.1 x.1.2.2.1) aae
def Pz (m:(List M.aK)->Int->Option Int):bC K:=cI 20 ⟨[.aZ U.Builtin, .int .i64],[]⟩ (fun x=>m x.1.1 x.1.2.1)
def A7 : Cx K:=fG [(49, .plain)] [TK M.GL] [(5,MS)]
theorem MV : aG A7:=ai aQ _ (aj ant aW)
theorem aaf : bG A7 (bD (bI Tryz.f20) 0) MS:= bn (cx:=A7) (sh:=⟨[.aZ U.Builtin, .int .i64, .int .i64],[]⟩) (run:=fun n x=>M.oG x.1.1 n x.1.2.1 x.1.2.2.1) (di:=acX) aQ MV aH (ah (by kernel_rfl)) (fun _=>rfl) (fun m x=>by kernel_rfl) (aj ⟨dC,fun _ _ _=>rfl⟩ (aj ⟨bu,fun _ _ _=>rfl⟩ aW)) false aA
theorem alp : dA (Pz (M.Dy)):= fK (cx:=A7) true MV Tryz.func20 (aV (aP 1 (by kernel_rfl) (bQ (.mk (by kernel_rfl) aaf)))) ⟨⟨[.int .i64],[]⟩,fun x=>x.1.1⟩ (fun x=>by kernel_rfl)
def MW (m:M.ay->Int->Option Int):bC K:=cI 6 ⟨[.el U.bJ, .int .i64],[]⟩ (fun x=>m x.1.1 x.1.2.1)
def PD : Cx K:=fG [(16, .plain),(17, .plain),(18, .plain),(19, .plain),(20, .plain)] [aa5 M.JW,VU M.KA,aa3 M.Px,VS M.Kz,Pz M.Dy] []
theorem acY : aG PD:=ai aQ _ (aj asM (aj aql (aj asK (aj aqk (aj alp aW)))))
theorem ahD : dA (MW (M.tY)):= fK (cx:=PD) true acY Tryz.func6 (aV (ah (by kernel_rfl))) ⟨⟨[.int .i64],[]⟩,fun x=>x.1.1⟩ (fun x=>by kernel_rfl)
def aeG (m:M.dG->Option (M.dG)):bC K:={f:=62,sh:=⟨[.el U.qZ],[]⟩,R:=M.dG,run:=fun x=>m x.1.1,dflt:=default,out:=fun r=>(Sh.enc D (.el U.qZ) r,iY.encs D [] ())}
def ajV : Cx K:={cx0 with mode:=uX .plain [],rsl:=[[]],deep:=fun c=>fB (D.cells c (K.zero c)),call:=callOf D [],loop:=ry []}
theorem aqm : aG ajV:=ai aQ _ aW
theorem auy : dA (aeG (M.aeH)):= fK (cx:=ajV) false aqm Tryz.func62 (aV (ah (by kernel_rfl))) ⟨⟨[.el U.qZ],[]⟩,fun x=>x.1.1⟩ (fun x=>by kernel_rfl)
def ahE (y:(List M.dG)) {R:Type} (k:KT R):R:=match y with |a0=>kk k (Ex.exit 0) ⟨[.own 1],[.dead, .arr U.qZ]⟩ (((),()),((),(a0,())))
def alq : List (dm K ((List M.dG))):=[⟨(Ex.exit 0),⟨[.own 1],[.dead, .arr U.qZ]⟩,fun x=>x.2.2.1⟩]
def VV : cZ K:=dn D false 23 1 [0,3,4] [3] ⟨[.aZ U.qZ, .own 1, .int .i64],[.dead, .arr U.qZ]⟩ (fun x=>M.sF x.1.1 aA x.1.2.2.1 x.2.2.1) ahE
def aa6 (m:(List M.dG)->Option ((List M.dG))):bC K:={f:=24,sh:=⟨[.aZ U.qZ],[]⟩,R:=(List M.dG),run:=fun x=>m x.1.1,dflt:=default,out:=fun r=>(Sh.enc D (.own 0) (),iY.encs D [.arr U.qZ] (r,()))}
def Jf : Cx K:={cx0 with mode:=uX .plain [(62, .fresh)],rsl:=[[some U.qZ]],deep:=fun c=>fB (D.cells c (K.zero c)),call:=callOf D [aeG M.aeH],loop:=ry [(3,VV)]}
theorem VW : aG Jf:=ai aQ _ (aj auy aW)
theorem ahF : bG Jf (bD (bI Tryz.f24) 0) VV:= bn (cx:=Jf) (sh:=⟨[.aZ U.qZ, .own 1, .int .i64],[.dead, .arr U.qZ]⟩) (run:=fun n x=>M.sF x.1.1 n x.1.2.2.1 x.2.2.1) (di:=alq) aQ VW aH (ah (by kernel_rfl)) (fun _=>rfl) (fun m x=>by kernel_rfl) (aj ⟨bu,fun _ _ _=>rfl⟩ aW) false aA
theorem asN : dA (aa6 (M.PE)):= fK (cx:=Jf) false VW Tryz.func24 (aV (aP 1 (by kernel_rfl) (bQ (.mk (by kernel_rfl) ahF)))) ⟨⟨[.own 0],[.arr U.qZ]⟩,fun x=>x.2.1⟩ (fun x=>by kernel_rfl)
def aa7 (m:M.bK->Option (M.bK)):bC K:={f:=63,sh:=⟨[.el U.Lower],[]⟩,R:=M.bK,run:=fun x=>m x.1.1,dflt:=default,out:=fun r=>(Sh.enc D (.el U.Lower) r,iY.encs D [] ())}
def aeI : Cx K:={cx0 with mode:=uX .plain [],rsl:=[[]],deep:=fun c=>fB (D.cells c (K.zero c)),call:=callOf D [],loop:=ry []}
theorem anu : aG aeI:=ai aQ _ aW
theorem asO : dA (aa7 (M.ZA)):= fK (cx:=aeI) false anu Tryz.func63 (aV (ah (by kernel_rfl))) ⟨⟨[.el U.Lower],[]⟩,fun x=>x.1.1⟩ (fun x=>by kernel_rfl)
def aeJ (y:(List M.bK)) {R:Type} (k:KT R):R:=match y with |a0=>kk k (Ex.exit 0) ⟨[.own 1],[.dead, .arr U.Lower]⟩ (((),()),((),(a0,())))
def ahG : List (dm K ((List M.bK))):=[⟨(Ex.exit 0),⟨[.own 1],[.dead, .arr U.Lower]⟩,fun x=>x.2.2.1⟩]
def TL : cZ K:=dn D false 23 1 [0,3,4] [3] ⟨[.aZ U.Lower, .own 1, .int .i64],[.dead, .arr U.Lower]⟩ (fun x=>M.pq x.1.1 aA x.1.2.2.1 x.2.2.1) aeJ
def VX (m:(List M.bK)->Option ((List M.bK))):bC K:={f:=25,sh:=⟨[.aZ U.Lower],[]⟩,R:=(List M.bK),run:=fun x=>m x.1.1,dflt:=default,out:=fun r=>(Sh.enc D (.own 0) (),iY.encs D [.arr U.Lower] (r,()))}
def FU : Cx K:={cx0 with mode:=uX .plain [(63, .fresh)],rsl:=[[some U.Lower]],deep:=fun c=>fB (D.cells c (K.zero c)),call:=callOf D [aa7 M.ZA],loop:=ry [(3,TL)]}
theorem TM : aG FU:=ai aQ _ (aj asO aW)
theorem aeK : bG FU (bD (bI Tryz.f25) 0) TL:= bn (cx:=FU) (sh:=⟨[.aZ U.Lower, .own 1, .int .i64],[.dead, .arr U.Lower]⟩) (run:=fun n x=>M.pq x.1.1 n x.1.2.2.1 x.2.2.1) (di:=ahG) aQ TM aH (ah (by kernel_rfl)) (fun _=>rfl) (fun m x=>by kernel_rfl) (aj ⟨bu,fun _ _ _=>rfl⟩ aW) false aA
theorem aqn : dA (VX (M.KC)):= fK (cx:=FU) false TM Tryz.func25 (aV (aP 1 (by kernel_rfl) (bQ (.mk (by kernel_rfl) aeK)))) ⟨⟨[.own 0],[.arr U.Lower]⟩,fun x=>x.2.1⟩ (fun x=>by kernel_rfl)
def TN (m:M.aK->Option (M.aK)):bC K:={f:=64,sh:=⟨[.el U.Builtin],[]⟩,R:=M.aK,run:=fun x=>m x.1.1,dflt:=default,out:=fun r=>(Sh.enc D (.el U.Builtin) r,iY.encs D [] ())}
def VY : Cx K:={cx0 with mode:=uX .plain [],rsl:=[[]],deep:=fun c=>fB (D.cells c (K.zero c)),call:=callOf D [],loop:=ry []}
theorem ahH : aG VY:=ai aQ _ aW
theorem anv : dA (TN (M.MX)):= fK (cx:=VY) false ahH Tryz.func64 (aV (ah (by kernel_rfl))) ⟨⟨[.el U.Builtin],[]⟩,fun x=>x.1.1⟩ (fun x=>by kernel_rfl)
def aag (y:(List M.aK)) {R:Type} (k:KT R):R:=match y with |a0=>kk k (Ex.exit 0) ⟨[.own 1],[.dead, .arr U.Builtin]⟩ (((),()),((),(a0,())))
def acZ : List (dm K ((List M.aK))):=[⟨(Ex.exit 0),⟨[.own 1],[.dead, .arr U.Builtin]⟩,fun x=>x.2.2.1⟩]
def MZ : cZ K:=dn D false 23 1 [0,3,4] [3] ⟨[.aZ U.Builtin, .own 1, .int .i64],[.dead, .arr U.Builtin]⟩ (fun x=>M.lS x.1.1 aA x.1.2.2.1 x.2.2.1) aag
def PG (m:(List M.aK)->Option ((List M.aK))):bC K:={f:=26,sh:=⟨[.aZ U.Builtin],[]⟩,R:=(List M.aK),run:=fun x=>m x.1.1,dflt:=default,out:=fun r=>(Sh.enc D (.own 0) (),iY.encs D [.arr U.Builtin] (r,()))}
def A8 : Cx K:={cx0 with mode:=uX .plain [(64, .fresh)],rsl:=[[some U.Builtin]],deep:=fun c=>fB (D.cells c (K.zero c)),call:=callOf D [TN M.MX],loop:=ry [(3,MZ)]}
theorem Na : aG A8:=ai aQ _ (aj anv aW)
theorem aah : bG A8 (bD (bI Tryz.f26) 0) MZ:= bn (cx:=A8) (sh:=⟨[.aZ U.Builtin, .own 1, .int .i64],[.dead, .arr U.Builtin]⟩) (run:=fun n x=>M.lS x.1.1 n x.1.2.2.1 x.2.2.1) (di:=acZ) aQ Na aH (ah (by kernel_rfl)) (fun _=>rfl) (fun m x=>by kernel_rfl) (aj ⟨bu,fun _ _ _=>rfl⟩ aW) false aA
theorem alr : dA (PG (M.Dz)):= fK (cx:=A8) false Na Tryz.func26 (aV (aP 1 (by kernel_rfl) (bQ (.mk (by kernel_rfl) aah)))) ⟨⟨[.own 0],[.arr U.Builtin]⟩,fun x=>x.2.1⟩ (fun x=>by kernel_rfl)
def Nb (m:M.ay->Option ((List UInt8)×(List UInt8)×(List M.aN)×(List M.aN)×Int×Int×Int×(List M.aF)×(List M.aJ)×(List M.dG)×(List M.bK)×(List M.aK))):bC K:={f:=8,sh:=⟨[.el U.bJ],[]⟩,R:=(List UInt8)×(List UInt8)×(List M.aN)×(List M.aN)×Int×Int×Int×(List M.aF)×(List M.aJ)×(List M.dG)×(List M.bK)×(List M.aK),run:=fun x=>m x.1.1,dflt:=default,out:=fun r=>(Sh.enc D (.agg [.str, .str, .aZ U.bV, .aZ U.bV, .int .i64, .int .i64, .int .i64, .own 0, .own 1, .own 2, .own 3, .own 4]) (r.1,(r.2.1,(r.2.2.1,(r.2.2.2.1,(r.2.2.2.2.1,(r.2.2.2.2.2.1,(r.2.2.2.2.2.2.1,((),((),((),((),((),())))))))))))),iY.encs D [.arr U.Import, .tree U.Core, .arr U.qZ, .arr U.Lower, .arr U.Builtin] (r.2.2.2.2.2.2.2.1,(r.2.2.2.2.2.2.2.2.1,(r.2.2.2.2.2.2.2.2.2.1,(r.2.2.2.2.2.2.2.2.2.2.1,(r.2.2.2.2.2.2.2.2.2.2.2,()))))))}
def PH : Cx K:={cx0 with mode:=uX .plain [(22, .fresh),(23, .fresh),(24, .fresh),(25, .fresh),(26, .fresh)],rsl:=[[none,none,some U.bV,some U.bV,none,none,none,some U.Import,some U.Core,some U.qZ,some U.Lower,some U.Builtin]],deep:=fun c=>fB (D.cells c (K.zero c)),call:=callOf D [aa8 M.JX,VZ M.KD,aa6 M.PE,VX M.KC,PG M.Dz],loop:=ry []}
theorem ac0 : aG PH:=ai aQ _ (aj asP (aj aqo (aj asN (aj aqn (aj alr aW)))))
theorem ahI : dA (Nb (M.tZ)):= fK (cx:=PH) false ac0 Tryz.func8 (aV (ah (by kernel_rfl))) ⟨⟨[.agg [.str, .str, .aZ U.bV, .aZ U.bV, .int .i64, .int .i64, .int .i64, .own 0, .own 1, .own 2, .own 3, .own 4]],[.arr U.Import, .tree U.Core, .arr U.qZ, .arr U.Lower, .arr U.Builtin]⟩,fun x=>(x.1.1.1,x.1.1.2.1,x.1.1.2.2.1,x.1.1.2.2.2.1,x.1.1.2.2.2.2.1,x.1.1.2.2.2.2.2.1,x.1.1.2.2.2.2.2.2.1,x.2.1,x.2.2.1,x.2.2.2.1,x.2.2.2.2.1,x.2.2.2.2.2.1)⟩ (fun x=>by kernel_rfl)
def aeL (y:Bool⊕(M.aI)) {R:Type} (k:KT R):R:=match y with | .inl a0=>kk k Ex.ret ⟨[.any, .bool],[.dead]⟩ (((),(a0,())),((),())) | .inr a1=>kk k (Ex.exit 0) ⟨[.ptr 0 0, .any],[.el U.Module]⟩ (((),((),())),(a1,()))
def ahJ : List (dm K ((Bool)⊕(M.aI))):=[⟨Ex.ret,⟨[.any, .bool],[.dead]⟩,fun x=> .inl x.1.2.1⟩,⟨(Ex.exit 0),⟨[.ptr 0 0, .any],[.el U.Module]⟩,fun x=> .inr (x.2.1)⟩]
def TP : cZ K:=dn D false 82 1 [1,3] [1,2] ⟨[.ptr 0 0, .int .i64],[.el U.Module]⟩ (fun x=>M.uf x.2.1 aA x.1.2.1) aeL
def aeM (m:M.bH->Option Bool):bC K:=cB 267 ⟨[.el U.Ins],[]⟩ (fun x=>m x.1.1)
def ajW : Cx K:=fG [(308, .plain),(53, .plain)] [aeN M.anw,sG M.Jg] []
theorem aqp : aG ajW:=ai aQ _ (aj auz (aj yQ aW))
theorem auA : dA (aeM (M.aeO)):= fK (cx:=ajW) true aqp Tryz.func267 (aV (ah (by kernel_rfl))) ⟨⟨[.bool],[]⟩,fun x=>x.1.1⟩ (fun x=>by kernel_rfl)
def ahK (y:Bool⊕Unit) {R:Type} (k:KT R):R:=match y with | .inl a0=>kk k Ex.ret ⟨[.bool],[.dead]⟩ ((a0,()),((),())) | .inr a1=>kk k (Ex.exit 0) ⟨[.any],[.dead]⟩ (((),()),((),()))
def als : List (dm K ((Bool)⊕Unit)):=[⟨Ex.ret,⟨[.bool],[.dead]⟩,fun x=> .inl x.1.1⟩,⟨(Ex.exit 0),⟨[.any],[.dead]⟩,fun x=> .inr (())⟩]
def V3 : cZ K:=dn D false 40 1 [1,3] [2] ⟨[.ptr 0 0, .int .i64],[.el U.Core]⟩ (fun x=>M.wW x.2.1 aA x.1.2.1) ahK
def aa9 (m:M.aJ->Option Bool):bC K:=cB 210 ⟨[.el U.Core],[]⟩ (fun x=>m x.1.1)
def Jh : Cx K:=fG [(208, .plain),(53, .plain),(267, .plain)] [OI M.EW,sG M.Jg,aeM M.aeO] [(4,V3)]
theorem V4 : aG Jh:=ai aQ _ (aj aeP (aj yQ (aj auA aW)))
theorem ahL : bG Jh (bD (bI Tryz.f210) 0) V3:= bn (cx:=Jh) (sh:=⟨[.ptr 0 0, .int .i64],[.el U.Core]⟩) (run:=fun n x=>M.wW x.2.1 n x.1.2.1) (di:=als) aQ V4 aH (ah (by kernel_rfl)) (fun _=>rfl) (fun m x=>by kernel_rfl) (aj ⟨dC,fun _ _ _=>rfl⟩ (aj ⟨bu,fun _ _ _=>rfl⟩ aW)) false aA
theorem asQ : dA (aa9 (M.PI)):= fK (cx:=Jh) true V4 Tryz.func210 (aV (aP 1 (by kernel_rfl) (bQ (.mk (by kernel_rfl) ahL)))) ⟨⟨[.bool],[]⟩,fun x=>x.1.1⟩ (fun x=>by kernel_rfl)
def aeQ (y:Bool⊕Unit) {R:Type} (k:KT R):R:=match y with | .inl a0=>kk k Ex.ret ⟨[.bool],[.dead]⟩ ((a0,()),((),())) | .inr a1=>kk k (Ex.exit 2) ⟨[.any],[.dead]⟩ (((),()),((),()))
def ahM : List (dm K ((Bool)⊕Unit)):=[⟨Ex.ret,⟨[.bool],[.dead]⟩,fun x=> .inl x.1.1⟩,⟨(Ex.exit 2),⟨[.any],[.dead]⟩,fun x=> .inr (())⟩]
def TQ : cZ K:=dn D false 82 1 [1,5] [2] ⟨[.ptr 0 0, .int .i64],[.el U.Module]⟩ (fun x=>M.ug x.2.1 aA x.1.2.1) aeQ
def V5 (m:M.aI->Option Bool):bC K:=cB 170 ⟨[.el U.Module],[]⟩ (fun x=>m x.1.1)
def xP : Cx K:=fG [(53, .plain),(208, .plain),(209, .plain),(210, .plain),(211, .plain)] [sG M.Jg,OI M.EW,Nc M.Ar,aa9 M.PI,TR M.GM] [(4,TP),(10,TQ)]
theorem Io : aG xP:=ai aQ _ (aj yQ (aj aeP (aj ahN (aj asQ (aj anx aW)))))
theorem aeR : bG xP (bD (bI Tryz.f170) 0) TP:= bn (cx:=xP) (sh:=⟨[.ptr 0 0, .int .i64],[.el U.Module]⟩) (run:=fun n x=>M.uf x.2.1 n x.1.2.1) (di:=ahJ) aQ Io aH (ah (by kernel_rfl)) (fun _=>rfl) (fun m x=>by kernel_rfl) (aj ⟨dC,fun _ _ _=>rfl⟩ (aj ⟨bu,fun _ _ _=>rfl⟩ aW)) false aA
theorem aeS : bG xP (bD (bI Tryz.f170) 1) TQ:= bn (cx:=xP) (sh:=⟨[.ptr 0 0, .int .i64],[.el U.Module]⟩) (run:=fun n x=>M.ug x.2.1 n x.1.2.1) (di:=ahM) aQ Io aH (ah (by kernel_rfl)) (fun _=>rfl) (fun m x=>by kernel_rfl) (aj ⟨dC,fun _ _ _=>rfl⟩ (aj ⟨bu,fun _ _ _=>rfl⟩ aW)) false aA
theorem aqr : dA (V5 (M.KE)):= fK (cx:=xP) true Io Tryz.func170 (aV (aP 2 (by kernel_rfl) (lt_succ (bQ (.mk (by kernel_rfl) aeR)) (.mk (by kernel_rfl) aeS)))) ⟨⟨[.bool],[]⟩,fun x=>x.1.1⟩ (fun x=>by kernel_rfl)
def ac1 (y:(Int×Int×Int)⊕Unit) {R:Type} (k:KT R):R:=match y with | .inl a0=>kk k Ex.ret ⟨[.int .i64, .int .i64, .int .i64],[.dead]⟩ ((a0.1,(a0.2.1,(a0.2.2,()))),((),())) | .inr a1=>kk k (Ex.exit 0) ⟨[.any, .any, .any],[.dead]⟩ (((),((),((),()))),((),()))
def aeT : List (dm K ((Int×Int×Int)⊕Unit)):=[⟨Ex.ret,⟨[.int .i64, .int .i64, .int .i64],[.dead]⟩,fun x=> .inl (x.1.1,x.1.2.1,x.1.2.2.1)⟩,⟨(Ex.exit 0),⟨[.any, .any, .any],[.dead]⟩,fun x=> .inr (())⟩]
def PK : cZ K:=dn D false 33 1 [1,5] [2,3,4] ⟨[.ptr 0 0, .int .i64],[.el U.Module]⟩ (fun x=>M.nC x.2.1 aA x.1.2.1) ac1
def TS (m:M.aI->Option (Int×Int×Int)):bC K:={f:=137,sh:=⟨[.el U.Module],[]⟩,R:=Int×Int×Int,run:=fun x=>m x.1.1,dflt:=default,out:=fun r=>(Sh.enc D (.nS [.int .i64, .int .i64, .int .i64]) (r.1,(r.2.1,(r.2.2,()))),iY.encs D [] ())}
def DC : Cx K:=fG [(170, .plain),(171, .iD)] [V5 M.KE,aba M.PL] [(4,PK)]
theorem PM : aG DC:=ai aQ _ (aj aqr (aj asR aW))
theorem ac2 : bG DC (bD (bI Tryz.f137) 0) PK:= bn (cx:=DC) (sh:=⟨[.ptr 0 0, .int .i64],[.el U.Module]⟩) (run:=fun n x=>M.nC x.2.1 n x.1.2.1) (di:=aeT) aQ PM aH (ah (by kernel_rfl)) (fun _=>rfl) (fun m x=>by kernel_rfl) (aj ⟨dC,fun _ _ _=>rfl⟩ (aj ⟨bu,fun _ _ _=>rfl⟩ aW)) false aA
theorem anz : dA (TS (M.GN)):= fK (cx:=DC) true PM Tryz.func137 (aV (aP 1 (by kernel_rfl) (bQ (.mk (by kernel_rfl) ac2)))) ⟨⟨[.nS [.int .i64, .int .i64, .int .i64]],[]⟩,fun x=>(x.1.1.1,x.1.1.2.1,x.1.1.2.2.1)⟩ (fun x=>by kernel_rfl)
def V6 (m:M.aI->Option Bool):bC K:=cB 92 ⟨[.el U.Module],[]⟩ (fun x=>m x.1.1)
def abb : Cx K:=fG [(137, .plain)] [TS M.GN] []
theorem alu : aG abb:=ai aQ _ (aj anz aW)
theorem aqs : dA (V6 (M.RU)):= fK (cx:=abb) true alu Tryz.func92 (aV (ah (by kernel_rfl))) ⟨⟨[.bool],[]⟩,fun x=>x.1.1⟩ (fun x=>by kernel_rfl)
def V7 (m:M.aI->Option Bool):bC K:=cB 54 ⟨[.el U.Module],[]⟩ (fun x=>m x.1.1)
def abd : Cx K:=fG [(92, .plain)] [V6 M.RU] []
theorem alv : aG abd:=ai aQ _ (aj aqs aW)
theorem aqt : dA (V7 (M.KF)):= fK (cx:=abd) true alv Tryz.func54 (aV (ah (by kernel_rfl))) ⟨⟨[.bool],[]⟩,fun x=>x.1.1⟩ (fun x=>by kernel_rfl)
def ahO (y:Int⊕Unit) {R:Type} (k:KT R):R:=match y with | .inl a0=>kk k Ex.ret ⟨[.int .i64],[.dead]⟩ ((a0,()),((),())) | .inr a1=>kk k (Ex.exit 0) ⟨[.any],[.dead]⟩ (((),()),((),()))
def alx : List (dm K ((Int)⊕Unit)):=[⟨Ex.ret,⟨[.int .i64],[.dead]⟩,fun x=> .inl x.1.1⟩,⟨(Ex.exit 0),⟨[.any],[.dead]⟩,fun x=> .inr (())⟩]
def V8 : cZ K:=dn D false 22 1 [1,2,5] [4] ⟨[.str, .ptr 0 0, .int .i64],[.el U.Module]⟩ (fun x=>M.wJ x.1.1 x.2.1 aA x.1.2.2.1) ahO
def abe (m:M.aI->(List UInt8)->Option Int):bC K:=cI 93 ⟨[.el U.Module, .str],[]⟩ (fun x=>m x.1.1 x.1.2.1)
def Ji : Cx K:=fG [] [] [(2,V8)]
theorem V9 : aG Ji:=ai aQ _ aW
theorem ahP : bG Ji (bD (bI Tryz.f93) 0) V8:= bn (cx:=Ji) (sh:=⟨[.str, .ptr 0 0, .int .i64],[.el U.Module]⟩) (run:=fun n x=>M.wJ x.1.1 x.2.1 n x.1.2.2.1) (di:=alx) aQ V9 aH (ah (by kernel_rfl)) (fun _=>rfl) (fun m x=>by kernel_rfl) (aj ⟨dC,fun _ _ _=>rfl⟩ (aj ⟨bu,fun _ _ _=>rfl⟩ aW)) false aA
theorem asT : dA (abe (M.O5)):= fK (cx:=Ji) true V9 Tryz.func93 (aV (aP 1 (by kernel_rfl) (bQ (.mk (by kernel_rfl) ahP)))) ⟨⟨[.int .i64],[]⟩,fun x=>x.1.1⟩ (fun x=>by kernel_rfl)
def sH (m:M.ae->Option (M.ae)):bC K:={f:=172,sh:=⟨[.el U.Type],[]⟩,R:=M.ae,run:=fun x=>m x.1.1,dflt:=default,out:=fun r=>(Sh.enc D (.el U.Type) r,iY.encs D [] ())}
def aly (y:Int×(List UInt8)×Int×(List UInt8)×(List (List UInt8))×(List M.ae)×(List (List UInt8))×(List M.ae)) {R:Type} (k:KT R):R:=match y with |a0=>kk k (Ex.exit 0) ⟨[.ptr 1 0, .ptr 2 0],[.dead, .box [.int .i64, .str, .own 7, .own 8], .box [.int .i64, .str, .own 9, .own 10], .dead, .dead, .dead, .dead, .arr U.str, .arr U.Type, .arr U.str, .arr U.Type]⟩ (((),((),())),((),((a0.1,(a0.2.1,((),((),())))),((a0.2.2.1,(a0.2.2.2.1,((),((),())))),((),((),((),((),(a0.2.2.2.2.1,(a0.2.2.2.2.2.1,(a0.2.2.2.2.2.2.1,(a0.2.2.2.2.2.2.2,()))))))))))))
def anA : List (dm K (Int×(List UInt8)×Int×(List UInt8)×(List (List UInt8))×(List M.ae)×(List (List UInt8))×(List M.ae))):=[⟨(Ex.exit 0),⟨[.ptr 1 0, .ptr 2 0],[.dead, .box [.int .i64, .str, .own 7, .own 8], .box [.int .i64, .str, .own 9, .own 10], .dead, .dead, .dead, .dead, .arr U.str, .arr U.Type, .arr U.str, .arr U.Type]⟩,fun x=>(x.2.2.1.1,x.2.2.1.2.1,x.2.2.2.1.1,x.2.2.2.1.2.1,x.2.2.2.2.2.2.2.2.1,x.2.2.2.2.2.2.2.2.2.1,x.2.2.2.2.2.2.2.2.2.2.1,x.2.2.2.2.2.2.2.2.2.2.2.1)⟩]
def abf (dO:M.ae->Option (M.ae)):cZ K:=dn D false 33 7 [1,2,3,4] [2,3] ⟨[.ptr 0 0, .ptr 1 0, .ptr 2 0, .int .i64],[.el U.Type, .box [.int .i64, .str, .own 7, .own 8], .box [.int .i64, .str, .own 9, .own 10], .dead, .dead, .dead, .dead, .arr U.str, .arr U.Type, .arr U.str, .arr U.Type]⟩ (fun x=>M.vV dO x.2.2.1.1 x.2.2.1.2.1 x.2.2.2.1.1 x.2.2.2.1.2.1 x.2.2.2.2.2.2.2.2.1 x.2.2.2.2.2.2.2.2.2.1 x.2.2.2.2.2.2.2.2.2.2.1 aA x.1.2.2.2.1 x.2.1 x.2.2.2.2.2.2.2.2.2.2.2.1) aly
def Nh (dO:M.ae->Option (M.ae)):Cx K:=fG [(172, .iD)] [sH dO] [(3,abf dO)]
theorem abg (dO:M.ae->Option (M.ae)) (xQ:dA (sH dO)):aG (Nh dO):=ai aQ _ (aj xQ aW)
theorem alz (dO:M.ae->Option (M.ae)) (xQ:dA (sH dO)):bG (Nh dO) (bD (bI Tryz.f172) 0) (abf dO):= bn (cx:=Nh dO) (sh:=⟨[.ptr 0 0, .ptr 1 0, .ptr 2 0, .int .i64],[.el U.Type, .box [.int .i64, .str, .own 7, .own 8], .box [.int .i64, .str, .own 9, .own 10], .dead, .dead, .dead, .dead, .arr U.str, .arr U.Type, .arr U.str, .arr U.Type]⟩) (run:=fun n x=>M.vV dO x.2.2.1.1 x.2.2.1.2.1 x.2.2.2.1.1 x.2.2.2.1.2.1 x.2.2.2.2.2.2.2.2.1 x.2.2.2.2.2.2.2.2.2.1 x.2.2.2.2.2.2.2.2.2.2.1 n x.1.2.2.2.1 x.2.1 x.2.2.2.2.2.2.2.2.2.2.2.1) (di:=anA) aQ (abg dO xQ) aH (ah (by kernel_rfl)) (fun _=>rfl) (fun m x=>by kernel_rfl) (aj ⟨bu,fun _ _ _=>rfl⟩ aW) false aA
theorem aqu (dO:M.ae->Option (M.ae)) (xQ:dA (sH dO)):dA (sH (M.RV dO)):= uA (cx:=Nh dO) (fz:=true) aQ (abg dO xQ) aH ⟨Tryz.func172,by kernel_rfl⟩ (aV (aP 1 (by kernel_rfl) (bQ (.mk (by kernel_rfl) (alz dO xQ))))) ⟨⟨[.el U.Type],[]⟩,fun x=>x.1.1⟩ (fun x=>rfl) (fun x=>by kernel_rfl)
theorem abh : ∀n,dA (sH (M.yR n)) |0=>qQ fun _=>rfl |n+1=>aqu (M.yR n) (abh n)
theorem auB : dA (sH (M.aeU)):=abh aA
def ac3 (y:(List M.ae)) {R:Type} (k:KT R):R:=match y with |a0=>kk k (Ex.exit 0) ⟨[.own 2],[.dead, .dead, .arr U.Type]⟩ (((),()),((),((),(a0,()))))
def aeV : List (dm K ((List M.ae))):=[⟨(Ex.exit 0),⟨[.own 2],[.dead, .dead, .arr U.Type]⟩,fun x=>x.2.2.2.1⟩]
def PN : cZ K:=dn D false 24 2 [1,3,4] [3] ⟨[.ptr 0 0, .own 2, .int .i64],[.el U.eQ, .dead, .arr U.Type]⟩ (fun x=>M.nD aA x.1.2.2.1 x.2.1 x.2.2.2.1) ac3
def TU (m:M.af->Option ((List M.ae))):bC K:={f:=138,sh:=⟨[.el U.eQ],[]⟩,R:=(List M.ae),run:=fun x=>m x.1.1,dflt:=default,out:=fun r=>(Sh.enc D (.aZ U.Type) r,iY.encs D [] ())}
def DD : Cx K:=fG [(172, .iD)] [sH M.aeU] [(3,PN)]
theorem PO : aG DD:=ai aQ _ (aj auB aW)
theorem ac4 : bG DD (bD (bI Tryz.f138) 0) PN:= bn (cx:=DD) (sh:=⟨[.ptr 0 0, .own 2, .int .i64],[.el U.eQ, .dead, .arr U.Type]⟩) (run:=fun n x=>M.nD n x.1.2.2.1 x.2.1 x.2.2.2.1) (di:=aeV) aQ PO aH (ah (by kernel_rfl)) (fun _=>rfl) (fun m x=>by kernel_rfl) (aj ⟨bu,fun _ _ _=>rfl⟩ aW) false aA
theorem anB : dA (TU (M.GR)):= fK (cx:=DD) true PO Tryz.func138 (aV (aP 1 (by kernel_rfl) (bQ (.mk (by kernel_rfl) ac4)))) ⟨⟨[.aZ U.Type],[]⟩,fun x=>x.1.1⟩ (fun x=>by kernel_rfl)
def aeW (m:M.ae->Option Bool):bC K:=cB 216 ⟨[.el U.Type],[]⟩ (fun x=>m x.1.1)
def ajX : Cx K:=fG [(168, .plain)] [We M.Nj] []
theorem aqv : aG ajX:=ai aQ _ (aj anC aW)
theorem auC : dA (aeW (M.Wh)):= fK (cx:=ajX) true aqv Tryz.func216 (aV (ah (by kernel_rfl))) ⟨⟨[.bool],[]⟩,fun x=>x.1.1⟩ (fun x=>by kernel_rfl)
def anD (y:Bool⊕((List M.ae))) {R:Type} (k:KT R):R:=match y with | .inl a0=>kk k Ex.ret ⟨[.any, .bool],[]⟩ (((),(a0,())),()) | .inr a1=>kk k (Ex.exit 0) ⟨[.aZ U.Type, .any],[]⟩ ((a1,((),())),())
def aqw : List (dm K ((Bool)⊕((List M.ae)))):=[⟨Ex.ret,⟨[.any, .bool],[]⟩,fun x=> .inl x.1.2.1⟩,⟨(Ex.exit 0),⟨[.aZ U.Type, .any],[]⟩,fun x=> .inr (x.1.1)⟩]
def aeX : cZ K:=dn D false 23 0 [0,3] [0,2] ⟨[.aZ U.Type, .int .i64],[]⟩ (fun x=>M.BB x.1.1 aA x.1.2.1) anD
def Wi (m:(List M.ae)->Option Bool):bC K:=cB 173 ⟨[.aZ U.Type],[]⟩ (fun x=>m x.1.1)
def RX : Cx K:=fG [(216, .plain)] [aeW M.Wh] [(2,aeX)]
theorem aeY : aG RX:=ai aQ _ (aj auC aW)
theorem anE : bG RX (bD (bI Tryz.f173) 0) aeX:= bn (cx:=RX) (sh:=⟨[.aZ U.Type, .int .i64],[]⟩) (run:=fun n x=>M.BB x.1.1 n x.1.2.1) (di:=aqw) aQ aeY aH (ah (by kernel_rfl)) (fun _=>rfl) (fun m x=>by kernel_rfl) (aj ⟨dC,fun _ _ _=>rfl⟩ (aj ⟨bu,fun _ _ _=>rfl⟩ aW)) false aA
theorem anF : dA (Wi (M.RY)):= fK (cx:=RX) true aeY Tryz.func173 (aV (aP 1 (by kernel_rfl) (bQ (.mk (by kernel_rfl) anE)))) ⟨⟨[.bool],[]⟩,fun x=>x.1.1⟩ (fun x=>by kernel_rfl)
def jd (m:(List M.ae)->Option ((List Int))):bC K:={f:=174,sh:=⟨[.aZ U.Type],[]⟩,R:=(List Int),run:=fun x=>m x.1.1,dflt:=default,out:=fun r=>(Sh.enc D (.aZ U.i64) r,iY.encs D [] ())}
def Wj (m:M.ae->Option ((List M.ae))):bC K:={f:=277,sh:=⟨[.el U.Type],[]⟩,R:=(List M.ae),run:=fun x=>m x.1.1,dflt:=default,out:=fun r=>(Sh.enc D (.aZ U.Type) r,iY.encs D [] ())}
def abj : Cx K:=fG [] [] []
theorem alA : aG abj:=ai aQ _ aW
theorem aqx : dA (Wj (M.KG)):= fK (cx:=abj) true alA Tryz.func277 (aV (ah (by kernel_rfl))) ⟨⟨[.aZ U.Type],[]⟩,fun x=>x.1.1⟩ (fun x=>by kernel_rfl)
def pz (m:M.ae->Option ((List Int))):bC K:={f:=217,sh:=⟨[.el U.Type],[]⟩,R:=(List Int),run:=fun x=>m x.1.1,dflt:=default,out:=fun r=>(Sh.enc D (.aZ U.i64) r,iY.encs D [] ())}
def ahQ (y:(List Int)) {R:Type} (k:KT R):R:=match y with |a0=>kk k (Ex.exit 0) ⟨[.own 1],[.dead, .arr U.i64]⟩ (((),()),((),(a0,())))
def alB : List (dm K ((List Int))):=[⟨(Ex.exit 0),⟨[.own 1],[.dead, .arr U.i64]⟩,fun x=>x.2.2.1⟩]
def Wl : cZ K:=dn D false 57 1 [0,1,5,6] [5] ⟨[.aZ U.i64, .aZ U.i64, .own 1, .int .i64],[.dead, .arr U.i64]⟩ (fun x=>M.mG x.1.1 x.1.2.1 aA x.1.2.2.2.1 x.2.2.1) ahQ
def abk (m:(List Int)->(List Int)->Option ((List Int))):bC K:={f:=278,sh:=⟨[.aZ U.i64, .aZ U.i64],[]⟩,R:=(List Int),run:=fun x=>m x.1.1 x.1.2.1,dflt:=default,out:=fun r=>(Sh.enc D (.own 0) (),iY.encs D [.arr U.i64] (r,()))}
def Jj : Cx K:={cx0 with mode:=uX .plain [(265, .plain)],rsl:=[[some U.i64]],call:=callOf D [RZ M.yS],loop:=ry [(3,Wl)]}
theorem Wn : aG Jj:=ai aQ _ (aj ajY aW)
theorem ahR : bG Jj (bD (bI Tryz.f278) 0) Wl:= bn (cx:=Jj) (sh:=⟨[.aZ U.i64, .aZ U.i64, .own 1, .int .i64],[.dead, .arr U.i64]⟩) (run:=fun n x=>M.mG x.1.1 x.1.2.1 n x.1.2.2.2.1 x.2.2.1) (di:=alB) aQ Wn aH (ah (by kernel_rfl)) (fun _=>rfl) (fun m x=>by kernel_rfl) (aj ⟨bu,fun _ _ _=>rfl⟩ aW) false aA
theorem asU : dA (abk (M.PQ)):= fK (cx:=Jj) false Wn Tryz.func278 (aV (aP 1 (by kernel_rfl) (bQ (.mk (by kernel_rfl) ahR)))) ⟨⟨[.own 0],[.arr U.i64]⟩,fun x=>x.2.1⟩ (fun x=>by kernel_rfl)
def ahS (y:(List Int)) {R:Type} (k:KT R):R:=match y with |a0=>kk k (Ex.exit 1) ⟨[.own 1],[.dead, .arr U.i64]⟩ (((),()),((),(a0,())))
def alC : List (dm K ((List Int))):=[⟨(Ex.exit 1),⟨[.own 1],[.dead, .arr U.i64]⟩,fun x=>x.2.2.1⟩]
def Wp (dK:M.ae->Option ((List Int))):cZ K:=dn D false 47 1 [3,4,5] [4] ⟨[.aZ U.Type, .own 1, .int .i64],[.dead, .arr U.i64]⟩ (fun x=>M.sJ dK x.1.1 aA x.1.2.2.1 x.2.2.1) ahS
def Jk (bz:(List M.ae)->Option ((List Int))) (dK:M.ae->Option ((List Int))):Cx K:=fG [(174, .iD),(277, .iD),(217, .iD),(278, .fresh)] [jd bz,Wj M.KG,pz dK,abk M.PQ] [(18,Wp dK)]
theorem Wq (bz:(List M.ae)->Option ((List Int))) (gq:dA (jd bz)) (dK:M.ae->Option ((List Int))) (uY:dA (pz dK)):aG (Jk bz dK):=ai aQ _ (aj gq (aj aqx (aj uY (aj asU aW))))
theorem ahT (bz:(List M.ae)->Option ((List Int))) (gq:dA (jd bz)) (dK:M.ae->Option ((List Int))) (uY:dA (pz dK)):bG (Jk bz dK) (bD (bI Tryz.f217) 0) (Wp dK):= bn (cx:=Jk bz dK) (sh:=⟨[.aZ U.Type, .own 1, .int .i64],[.dead, .arr U.i64]⟩) (run:=fun n x=>M.sJ dK x.1.1 n x.1.2.2.1 x.2.2.1) (di:=alC) aQ (Wq bz gq dK uY) aH (ah (by kernel_rfl)) (fun _=>rfl) (fun m x=>by kernel_rfl) (aj ⟨bu,fun _ _ _=>rfl⟩ aW) false aA
theorem anG (bz:(List M.ae)->Option ((List Int))) (gq:dA (jd bz)) (dK:M.ae->Option ((List Int))) (uY:dA (pz dK)):dA (pz (M.Nk bz dK)):= uA (cx:=Jk bz dK) (fz:=true) aQ (Wq bz gq dK uY) aH ⟨Tryz.func217,by kernel_rfl⟩ (aV (aP 1 (by kernel_rfl) (bQ (.mk (by kernel_rfl) (ahT bz gq dK uY))))) ⟨⟨[.aZ U.i64],[]⟩,fun x=>x.1.1⟩ (fun x=>rfl) (fun x=>by kernel_rfl)
theorem Ws (bz:(List M.ae)->Option ((List Int))) (gq:dA (jd bz)):∀n,dA (pz (M.vW bz n)) |0=>qQ fun _=>rfl |n+1=>anG bz gq (M.vW bz n) (Ws bz gq n)
theorem asV (bz:(List M.ae)->Option ((List Int))) (gq:dA (jd bz)):dA (pz (M.ZB bz)):=Ws bz gq aA
def alD (y:(List Int)) {R:Type} (k:KT R):R:=match y with |a0=>kk k (Ex.exit 0) ⟨[.own 1],[.dead, .arr U.i64]⟩ (((),()),((),(a0,())))
def anH : List (dm K ((List Int))):=[⟨(Ex.exit 0),⟨[.own 1],[.dead, .arr U.i64]⟩,fun x=>x.2.2.1⟩]
def abl (bz:(List M.ae)->Option ((List Int))):cZ K:=dn D false 20 1 [0,3,4] [3] ⟨[.aZ U.Type, .own 1, .int .i64],[.dead, .arr U.i64]⟩ (fun x=>M.vX bz x.1.1 aA x.1.2.2.1 x.2.2.1) alD
def Nl (bz:(List M.ae)->Option ((List Int))):Cx K:=fG [(217, .iD)] [pz (M.ZB bz)] [(3,abl bz)]
theorem abm (bz:(List M.ae)->Option ((List Int))) (gq:dA (jd bz)):aG (Nl bz):=ai aQ _ (aj (asV bz gq) aW)
theorem alE (bz:(List M.ae)->Option ((List Int))) (gq:dA (jd bz)):bG (Nl bz) (bD (bI Tryz.f174) 0) (abl bz):= bn (cx:=Nl bz) (sh:=⟨[.aZ U.Type, .own 1, .int .i64],[.dead, .arr U.i64]⟩) (run:=fun n x=>M.vX bz x.1.1 n x.1.2.2.1 x.2.2.1) (di:=anH) aQ (abm bz gq) aH (ah (by kernel_rfl)) (fun _=>rfl) (fun m x=>by kernel_rfl) (aj ⟨bu,fun _ _ _=>rfl⟩ aW) false aA
theorem aqy (bz:(List M.ae)->Option ((List Int))) (gq:dA (jd bz)):dA (jd (M.Si bz)):= uA (cx:=Nl bz) (fz:=true) aQ (abm bz gq) aH ⟨Tryz.func174,by kernel_rfl⟩ (aV (aP 1 (by kernel_rfl) (bQ (.mk (by kernel_rfl) (alE bz gq))))) ⟨⟨[.aZ U.i64],[]⟩,fun x=>x.1.1⟩ (fun x=>rfl) (fun x=>by kernel_rfl)
theorem abn : ∀n,dA (jd (M.wX n)) |0=>qQ fun _=>rfl |n+1=>aqy (M.wX n) (abn n)
theorem ajZ : dA (jd (M.PR)):=abn aA
def TV (m:(List M.ae)->Option ((List Int))):bC K:={f:=139,sh:=⟨[.aZ U.Type],[]⟩,R:=(List Int),run:=fun x=>m x.1.1,dflt:=default,out:=fun r=>(Sh.enc D (.aZ U.i64) r,iY.encs D [] ())}
def Wu : Cx K:=fG [(173, .plain),(174, .iD)] [Wi M.RY,jd M.PR] []
theorem ahU : aG Wu:=ai aQ _ (aj anF (aj ajZ aW))
theorem anI : dA (TV (M.Np)):= fK (cx:=Wu) true ahU Tryz.func139 (aV (ah (by kernel_rfl))) ⟨⟨[.aZ U.i64],[]⟩,fun x=>x.1.1⟩ (fun x=>by kernel_rfl)
def TW (m:(List M.ae)->Option Bool):bC K:=cB 140 ⟨[.aZ U.Type],[]⟩ (fun x=>m x.1.1)
def Wv : Cx K:=fG [(173, .plain),(174, .iD)] [Wi M.RY,jd M.PR] []
theorem ahV : aG Wv:=ai aQ _ (aj anF (aj ajZ aW))
theorem anJ : dA (TW (M.Nq)):= fK (cx:=Wv) true ahV Tryz.func140 (aV (ah (by kernel_rfl))) ⟨⟨[.bool],[]⟩,fun x=>x.1.1⟩ (fun x=>by kernel_rfl)
def KH (m:M.af->Option (Int×Bool)):bC K:={f:=94,sh:=⟨[.el U.eQ],[]⟩,R:=Int×Bool,run:=fun x=>m x.1.1,dflt:=default,out:=fun r=>(Sh.enc D (.nS [.int .i64, .bool]) (r.1,(r.2,())),iY.encs D [] ())}
def abo : Cx K:=fG [(138, .iD),(139, .iD),(140, .plain)] [TU M.GR,TV M.Np,TW M.Nq] []
theorem alF : aG abo:=ai aQ _ (aj anB (aj anI (aj anJ aW)))
theorem abp : dA (KH (M.yT)):= fK (cx:=abo) true alF Tryz.func94 (aV (ah (by kernel_rfl))) ⟨⟨[.nS [.int .i64, .bool]],[]⟩,fun x=>(x.1.1.1,x.1.1.2.1)⟩ (fun x=>by kernel_rfl)
def aai (y:Bool⊕(M.ay×Int×Int)) {R:Type} (k:KT R):R:=match y with | .inl a0=>kk k Ex.ret ⟨[.any, .any, .any, .bool],[]⟩ (((),((),((),(a0,())))),()) | .inr a1=>kk k (Ex.exit 2) ⟨[.rp U.bJ 0, .int .i64, .int .i64, .any],[]⟩ ((a1.1,(a1.2.1,(a1.2.2,((),())))),())
def ac5 : List (dm K ((Bool)⊕(M.ay×Int×Int))):=[⟨Ex.ret,⟨[.any, .any, .any, .bool],[]⟩,fun x=> .inl x.1.2.2.2.1⟩,⟨(Ex.exit 2),⟨[.rp U.bJ 0, .int .i64, .int .i64, .any],[]⟩,fun x=> .inr ((x.1.1,x.1.2.1,x.1.2.2.1))⟩]
def Nr : cZ K:=dn D false 138 0 [0,3,4,5] [0,3,4,2] ⟨[.rp U.bJ 0, .int .i64, .int .i64, .int .i64],[]⟩ (fun x=>M.jA x.1.1 x.1.2.2.1 aA x.1.2.1 x.1.2.2.2.1) aai
def aeZ (y:Bool⊕(M.ay×Int)) {R:Type} (k:KT R):R:=match y with | .inl a0=>kk k Ex.ret ⟨[.any, .any, .bool],[]⟩ (((),((),(a0,()))),()) | .inr a1=>kk k (Ex.exit 0) ⟨[.rp U.bJ 0, .int .i64, .any],[]⟩ ((a1.1,(a1.2,((),()))),())
def ahW : List (dm K ((Bool)⊕(M.ay×Int))):=[⟨Ex.ret,⟨[.any, .any, .bool],[]⟩,fun x=> .inl x.1.2.2.1⟩,⟨(Ex.exit 0),⟨[.rp U.bJ 0, .int .i64, .any],[]⟩,fun x=> .inr ((x.1.1,x.1.2.1))⟩]
def TY : cZ K:=dn D false 138 0 [0,3,4] [0,3,2] ⟨[.rp U.bJ 0, .int .i64, .int .i64],[]⟩ (fun x=>M.kG aA x.1.1 x.1.2.1 x.1.2.2.1) aeZ
def Wx (m:M.ay->Option Bool):bC K:=cB 55 ⟨[.rp U.bJ 0],[]⟩ (fun x=>m x.1.1)
def xR : Cx K:=fG [(90, .plain),(93, .plain),(94, .plain)] [Aj M.jV,abe M.O5,KH M.yT] [(6,Nr),(3,TY)]
theorem Ip : aG xR:=ai aQ _ (aj I9 (aj asT (aj abp aW)))
theorem aaj : bG xR (bD (bD (bI Tryz.f55) 0) 0) Nr:= bn (cx:=xR) (sh:=⟨[.rp U.bJ 0, .int .i64, .int .i64, .int .i64],[]⟩) (run:=fun n x=>M.jA x.1.1 x.1.2.2.1 n x.1.2.1 x.1.2.2.2.1) (di:=ac5) aQ Ip aH (ah (by kernel_rfl)) (fun _=>rfl) (fun m x=>by kernel_rfl) (aj ⟨dC,fun _ _ _=>rfl⟩ (aj ⟨bu,fun _ _ _=>rfl⟩ aW)) false aA
theorem ae0 : bG xR (bD (bI Tryz.f55) 0) TY:= bn (cx:=xR) (sh:=⟨[.rp U.bJ 0, .int .i64, .int .i64],[]⟩) (run:=fun n x=>M.kG n x.1.1 x.1.2.1 x.1.2.2.1) (di:=ahW) aQ Ip aH (aP 1 (by kernel_rfl) (bQ (.mk (by kernel_rfl) aaj))) (fun _=>rfl) (fun m x=>by kernel_rfl) (aj ⟨dC,fun _ _ _=>rfl⟩ (aj ⟨bu,fun _ _ _=>rfl⟩ aW)) false aA
theorem aqz : dA (Wx (M.J8)):= fK (cx:=xR) true Ip Tryz.func55 (aV (aP 1 (by kernel_rfl) (bQ (.mk (by kernel_rfl) ae0)))) ⟨⟨[.bool],[]⟩,fun x=>x.1.1⟩ (fun x=>by kernel_rfl)
def ac6 (y:Int⊕Unit) {R:Type} (k:KT R):R:=match y with | .inl a0=>kk k Ex.ret ⟨[.int .i64],[.dead]⟩ ((a0,()),((),())) | .inr a1=>kk k (Ex.exit 0) ⟨[.any],[.dead]⟩ (((),()),((),()))
def ae1 : List (dm K ((Int)⊕Unit)):=[⟨Ex.ret,⟨[.int .i64],[.dead]⟩,fun x=> .inl x.1.1⟩,⟨(Ex.exit 0),⟨[.any],[.dead]⟩,fun x=> .inr (())⟩]
def PS : cZ K:=dn D false 22 1 [1,2,5] [4] ⟨[.str, .ptr 0 0, .int .i64],[.el U.Module]⟩ (fun x=>M.qp x.1.1 x.2.1 aA x.1.2.2.1) ac6
def Iq (m:M.aI->(List UInt8)->Option Int):bC K:=cI 95 ⟨[.el U.Module, .str],[]⟩ (fun x=>m x.1.1 x.1.2.1)
def DF : Cx K:=fG [] [] [(2,PS)]
theorem PT : aG DF:=ai aQ _ aW
theorem ac7 : bG DF (bD (bI Tryz.f95) 0) PS:= bn (cx:=DF) (sh:=⟨[.str, .ptr 0 0, .int .i64],[.el U.Module]⟩) (run:=fun n x=>M.qp x.1.1 x.2.1 n x.1.2.2.1) (di:=ae1) aQ PT aH (ah (by kernel_rfl)) (fun _=>rfl) (fun m x=>by kernel_rfl) (aj ⟨dC,fun _ _ _=>rfl⟩ (aj ⟨bu,fun _ _ _=>rfl⟩ aW)) false aA
theorem Wy : dA (Iq (M.yE)):= fK (cx:=DF) true PT Tryz.func95 (aV (aP 1 (by kernel_rfl) (bQ (.mk (by kernel_rfl) ac7)))) ⟨⟨[.int .i64],[]⟩,fun x=>x.1.1⟩ (fun x=>by kernel_rfl)
def WA (y:Bool⊕(M.ay×Int×Int)) {R:Type} (k:KT R):R:=match y with | .inl a0=>kk k Ex.ret ⟨[.any, .any, .any, .bool],[]⟩ (((),((),((),(a0,())))),()) | .inr a1=>kk k (Ex.exit 2) ⟨[.rp U.bJ 0, .int .i64, .int .i64, .any],[]⟩ ((a1.1,(a1.2.1,(a1.2.2,((),())))),())
def aak : List (dm K ((Bool)⊕(M.ay×Int×Int))):=[⟨Ex.ret,⟨[.any, .any, .any, .bool],[]⟩,fun x=> .inl x.1.2.2.2.1⟩,⟨(Ex.exit 2),⟨[.rp U.bJ 0, .int .i64, .int .i64, .any],[]⟩,fun x=> .inr ((x.1.1,x.1.2.1,x.1.2.2.1))⟩]
def KI : cZ K:=dn D false 138 0 [0,3,4,5] [0,3,4,2] ⟨[.rp U.bJ 0, .int .i64, .int .i64, .int .i64],[]⟩ (fun x=>M.iW x.1.1 x.1.2.2.1 aA x.1.2.1 x.1.2.2.2.1) WA
def ac8 (y:Bool⊕(M.ay×Int)) {R:Type} (k:KT R):R:=match y with | .inl a0=>kk k Ex.ret ⟨[.any, .any, .bool],[]⟩ (((),((),(a0,()))),()) | .inr a1=>kk k (Ex.exit 0) ⟨[.rp U.bJ 0, .int .i64, .any],[]⟩ ((a1.1,(a1.2,((),()))),())
def ae2 : List (dm K ((Bool)⊕(M.ay×Int))):=[⟨Ex.ret,⟨[.any, .any, .bool],[]⟩,fun x=> .inl x.1.2.2.1⟩,⟨(Ex.exit 0),⟨[.rp U.bJ 0, .int .i64, .any],[]⟩,fun x=> .inr ((x.1.1,x.1.2.1))⟩]
def PU : cZ K:=dn D false 138 0 [0,3,4] [0,3,2] ⟨[.rp U.bJ 0, .int .i64, .int .i64],[]⟩ (fun x=>M.jL aA x.1.1 x.1.2.1 x.1.2.2.1) ac8
def TZ (m:M.ay->Option Bool):bC K:=cB 56 ⟨[.rp U.bJ 0],[]⟩ (fun x=>m x.1.1)
def uZ : Cx K:=fG [(90, .plain),(95, .plain),(94, .plain)] [Aj M.jV,Iq M.yE,KH M.yT] [(6,KI),(3,PU)]
theorem EX : aG uZ:=ai aQ _ (aj I9 (aj Wy (aj abp aW)))
theorem WB : bG uZ (bD (bD (bI Tryz.f56) 0) 0) KI:= bn (cx:=uZ) (sh:=⟨[.rp U.bJ 0, .int .i64, .int .i64, .int .i64],[]⟩) (run:=fun n x=>M.iW x.1.1 x.1.2.2.1 n x.1.2.1 x.1.2.2.2.1) (di:=aak) aQ EX aH (ah (by kernel_rfl)) (fun _=>rfl) (fun m x=>by kernel_rfl) (aj ⟨dC,fun _ _ _=>rfl⟩ (aj ⟨bu,fun _ _ _=>rfl⟩ aW)) false aA
theorem ac9 : bG uZ (bD (bI Tryz.f56) 0) PU:= bn (cx:=uZ) (sh:=⟨[.rp U.bJ 0, .int .i64, .int .i64],[]⟩) (run:=fun n x=>M.jL n x.1.1 x.1.2.1 x.1.2.2.1) (di:=ae2) aQ EX aH (aP 1 (by kernel_rfl) (bQ (.mk (by kernel_rfl) WB))) (fun _=>rfl) (fun m x=>by kernel_rfl) (aj ⟨dC,fun _ _ _=>rfl⟩ (aj ⟨bu,fun _ _ _=>rfl⟩ aW)) false aA
theorem anK : dA (TZ (M.Gq)):= fK (cx:=uZ) true EX Tryz.func56 (aV (aP 1 (by kernel_rfl) (bQ (.mk (by kernel_rfl) ac9)))) ⟨⟨[.bool],[]⟩,fun x=>x.1.1⟩ (fun x=>by kernel_rfl)
def ahX (y:Int⊕Unit) {R:Type} (k:KT R):R:=match y with | .inl a0=>kk k Ex.ret ⟨[.int .i64],[]⟩ ((a0,()),()) | .inr a1=>kk k (Ex.exit 0) ⟨[.any],[]⟩ (((),()),())
def alG : List (dm K ((Int)⊕Unit)):=[⟨Ex.ret,⟨[.int .i64],[]⟩,fun x=> .inl x.1.1⟩,⟨(Ex.exit 0),⟨[.any],[]⟩,fun x=> .inr (())⟩]
def WC : cZ K:=dn D false 20 0 [0,1,5] [4] ⟨[.aZ U.bV, .str, .int .i64],[]⟩ (fun x=>M.wL x.1.1 x.1.2.1 aA x.1.2.2.1) ahX
def abq (m:(List M.aN)->(List UInt8)->Option Int):bC K:=cI 141 ⟨[.aZ U.bV, .str],[]⟩ (fun x=>m x.1.1 x.1.2.1)
def Jl : Cx K:=fG [(90, .plain)] [Aj M.jV] [(2,WC)]
theorem WE : aG Jl:=ai aQ _ (aj I9 aW)
theorem ahY : bG Jl (bD (bI Tryz.f141) 0) WC:= bn (cx:=Jl) (sh:=⟨[.aZ U.bV, .str, .int .i64],[]⟩) (run:=fun n x=>M.wL x.1.1 x.1.2.1 n x.1.2.2.1) (di:=alG) aQ WE aH (ah (by kernel_rfl)) (fun _=>rfl) (fun m x=>by kernel_rfl) (aj ⟨dC,fun _ _ _=>rfl⟩ (aj ⟨bu,fun _ _ _=>rfl⟩ aW)) false aA
theorem asW : dA (abq (M.O8)):= fK (cx:=Jl) true WE Tryz.func141 (aV (aP 1 (by kernel_rfl) (bQ (.mk (by kernel_rfl) ahY)))) ⟨⟨[.int .i64],[]⟩,fun x=>x.1.1⟩ (fun x=>by kernel_rfl)
def ahZ (y:Bool⊕Unit) {R:Type} (k:KT R):R:=match y with | .inl a0=>kk k Ex.ret ⟨[.bool],[]⟩ ((a0,()),()) | .inr a1=>kk k (Ex.exit 0) ⟨[.any],[]⟩ (((),()),())
def alH : List (dm K ((Bool)⊕Unit)):=[⟨Ex.ret,⟨[.bool],[]⟩,fun x=> .inl x.1.1⟩,⟨(Ex.exit 0),⟨[.any],[]⟩,fun x=> .inr (())⟩]
def WG : cZ K:=dn D false 34 0 [0,2,7,8] [6] ⟨[.aZ U.bV, .str, .int .i64, .int .i64],[]⟩ (fun x=>M.wM x.1.1 x.1.2.1 x.1.2.2.1 aA x.1.2.2.2.1) ahZ
def abr (m:(List M.aN)->(List UInt8)->(List UInt8)->Option Bool):bC K:=cB 96 ⟨[.aZ U.bV, .str, .str],[]⟩ (fun x=>m x.1.1 x.1.2.1 x.1.2.2.1)
def Jm : Cx K:=fG [(141, .plain)] [abq M.O8] [(5,WG)]
theorem WH : aG Jm:=ai aQ _ (aj asW aW)
theorem ah0 : bG Jm (bD (bI Tryz.f96) 0) WG:= bn (cx:=Jm) (sh:=⟨[.aZ U.bV, .str, .int .i64, .int .i64],[]⟩) (run:=fun n x=>M.wM x.1.1 x.1.2.1 x.1.2.2.1 n x.1.2.2.2.1) (di:=alH) aQ WH aH (ah (by kernel_rfl)) (fun _=>rfl) (fun m x=>by kernel_rfl) (aj ⟨dC,fun _ _ _=>rfl⟩ (aj ⟨bu,fun _ _ _=>rfl⟩ aW)) false aA
theorem asX : dA (abr (M.JS)):= fK (cx:=Jm) true WH Tryz.func96 (aV (aP 1 (by kernel_rfl) (bQ (.mk (by kernel_rfl) ah0)))) ⟨⟨[.bool],[]⟩,fun x=>x.1.1⟩ (fun x=>by kernel_rfl)
def WI (y:Bool⊕Unit) {R:Type} (k:KT R):R:=match y with | .inl a0=>kk k Ex.ret ⟨[.bool],[]⟩ ((a0,()),()) | .inr a1=>kk k (Ex.exit 0) ⟨[.any],[]⟩ (((),()),())
def aal : List (dm K ((Bool)⊕Unit)):=[⟨Ex.ret,⟨[.bool],[]⟩,fun x=> .inl x.1.1⟩,⟨(Ex.exit 0),⟨[.any],[]⟩,fun x=> .inr (())⟩]
def KJ : cZ K:=dn D false 99 0 [0,3] [2] ⟨[.rp U.bJ 0, .int .i64],[]⟩ (fun x=>M.lW x.1.1 aA x.1.2.1) WI
def Ns (m:M.ay->Option Bool):bC K:=cB 57 ⟨[.rp U.bJ 0],[]⟩ (fun x=>m x.1.1)
def zG : Cx K:=fG [(96, .plain),(95, .plain),(53, .plain)] [abr M.JS,Iq M.yE,sG M.Jg] [(4,KJ)]
theorem KL : aG zG:=ai aQ _ (aj asX (aj Wy (aj yQ aW)))
theorem WJ : bG zG (bD (bI Tryz.f57) 0) KJ:= bn (cx:=zG) (sh:=⟨[.rp U.bJ 0, .int .i64],[]⟩) (run:=fun n x=>M.lW x.1.1 n x.1.2.1) (di:=aal) aQ KL aH (ah (by kernel_rfl)) (fun _=>rfl) (fun m x=>by kernel_rfl) (aj ⟨dC,fun _ _ _=>rfl⟩ (aj ⟨bu,fun _ _ _=>rfl⟩ aW)) false aA
theorem ah1 : dA (Ns (M.Ai)):= fK (cx:=zG) true KL Tryz.func57 (aV (aP 1 (by kernel_rfl) (bQ (.mk (by kernel_rfl) WJ)))) ⟨⟨[.bool],[]⟩,fun x=>x.1.1⟩ (fun x=>by kernel_rfl)
def aam (y:M.ay×Int×Int) {R:Type} (k:KT R):R:=match y with |a0=>kk k (Ex.exit 2) ⟨[.rp U.bJ 0, .int .i64, .int .i64],[]⟩ ((a0.1,(a0.2.1,(a0.2.2,()))),())
def ada : List (dm K (M.ay×Int×Int)):=[⟨(Ex.exit 2),⟨[.rp U.bJ 0, .int .i64, .int .i64],[]⟩,fun x=>(x.1.1,x.1.2.1,x.1.2.2.1)⟩]
def Nu : cZ K:=dn D false 77 0 [0,3,4,5] [0,3,4] ⟨[.rp U.bJ 0, .int .i64, .int .i64, .int .i64],[]⟩ (fun x=>M.iR x.1.1 x.1.2.1 aA x.1.2.2.1 x.1.2.2.2.1) aam
def aan (y:M.ay×Int×Int) {R:Type} (k:KT R):R:=match y with |a0=>kk k (Ex.exit 4) ⟨[.rp U.bJ 0, .int .i64, .int .i64],[]⟩ ((a0.1,(a0.2.1,(a0.2.2,()))),())
def adb : List (dm K (M.ay×Int×Int)):=[⟨(Ex.exit 4),⟨[.rp U.bJ 0, .int .i64, .int .i64],[]⟩,fun x=>(x.1.1,x.1.2.1,x.1.2.2.1)⟩]
def Nv : cZ K:=dn D false 77 0 [0,3,4,6] [0,3,4] ⟨[.rp U.bJ 0, .int .i64, .int .i64, .int .i64],[]⟩ (fun x=>M.iT x.1.1 x.1.2.1 aA x.1.2.2.1 x.1.2.2.2.1) aan
def ae3 (y:Bool⊕Unit) {R:Type} (k:KT R):R:=match y with | .inl a0=>kk k Ex.ret ⟨[.bool],[]⟩ ((a0,()),()) | .inr a1=>kk k (Ex.exit 0) ⟨[.any],[]⟩ (((),()),())
def ah2 : List (dm K ((Bool)⊕Unit)):=[⟨Ex.ret,⟨[.bool],[]⟩,fun x=> .inl x.1.1⟩,⟨(Ex.exit 0),⟨[.any],[]⟩,fun x=> .inr (())⟩]
def Ua : cZ K:=dn D false 77 0 [0,3] [2] ⟨[.rp U.bJ 0, .int .i64],[]⟩ (fun x=>M.kJ aA x.1.1 x.1.2.1) ae3
def WL (m:M.ay->Option Bool):bC K:=cB 58 ⟨[.rp U.bJ 0],[]⟩ (fun x=>m x.1.1)
def pF : Cx K:=fG [] [] [(6,Nu),(11,Nv),(2,Ua)]
theorem Ba : aG pF:=ai aQ _ aW
theorem aao : bG pF (bD (bD (bI Tryz.f58) 0) 0) Nu:= bn (cx:=pF) (sh:=⟨[.rp U.bJ 0, .int .i64, .int .i64, .int .i64],[]⟩) (run:=fun n x=>M.iR x.1.1 x.1.2.1 n x.1.2.2.1 x.1.2.2.2.1) (di:=ada) aQ Ba aH (ah (by kernel_rfl)) (fun _=>rfl) (fun m x=>by kernel_rfl) (aj ⟨bu,fun _ _ _=>rfl⟩ aW) false aA
theorem aap : bG pF (bD (bD (bI Tryz.f58) 0) 1) Nv:= bn (cx:=pF) (sh:=⟨[.rp U.bJ 0, .int .i64, .int .i64, .int .i64],[]⟩) (run:=fun n x=>M.iT x.1.1 x.1.2.1 n x.1.2.2.1 x.1.2.2.2.1) (di:=adb) aQ Ba aH (ah (by kernel_rfl)) (fun _=>rfl) (fun m x=>by kernel_rfl) (aj ⟨bu,fun _ _ _=>rfl⟩ aW) false aA
theorem ae4 : bG pF (bD (bI Tryz.f58) 0) Ua:= bn (cx:=pF) (sh:=⟨[.rp U.bJ 0, .int .i64],[]⟩) (run:=fun n x=>M.kJ n x.1.1 x.1.2.1) (di:=ah2) aQ Ba aH (aP 2 (by kernel_rfl) (lt_succ (bQ (.mk (by kernel_rfl) aao)) (.mk (by kernel_rfl) aap))) (fun _=>rfl) (fun m x=>by kernel_rfl) (aj ⟨dC,fun _ _ _=>rfl⟩ (aj ⟨bu,fun _ _ _=>rfl⟩ aW)) false aA
theorem aqA : dA (WL (M.Kq)):= fK (cx:=pF) true Ba Tryz.func58 (aV (aP 1 (by kernel_rfl) (bQ (.mk (by kernel_rfl) ae4)))) ⟨⟨[.bool],[]⟩,fun x=>x.1.1⟩ (fun x=>by kernel_rfl)
def WM (m:M.ay->Option ((List UInt8))):bC K:=cS 21 ⟨[.rp U.bJ 0],[]⟩ (fun x=>m x.1.1)
def abt : Cx K:=fG [(50, .plain),(51, .plain),(52, .plain),(53, .plain),(54, .plain),(55, .plain),(56, .plain),(57, .plain),(58, .plain)] [xU M.lJ,Ir M.yU,Vu M.ET,sG M.Jg,V7 M.KF,Wx M.J8,TZ M.Gq,Ns M.Ai,WL M.Kq] []
theorem alI : aG abt:=ai aQ _ (aj DI (aj WN (aj aqc (aj yQ (aj aqt (aj aqz (aj anK (aj ah1 (aj aqA aW)))))))))
theorem aqB : dA (WM (M.ES)):= fK (cx:=abt) true alI Tryz.func21 (aV (ah (by kernel_rfl))) ⟨⟨[.str],[]⟩,fun x=>x.1.1⟩ (fun x=>by kernel_rfl)
def PV (m:Int->Option Bool):bC K:=cB 30 ⟨[.int .i64],[]⟩ (fun x=>m x.1.1)
def Ub : Cx K:=fG [(32, .plain)] [kX M.yH] []
theorem ae5 : aG Ub:=ai aQ _ (aj oZ aW)
theorem alJ : dA (PV (M.ae6)):= fK (cx:=Ub) true ae5 Tryz.func30 (aV (ah (by kernel_rfl))) ⟨⟨[.bool],[]⟩,fun x=>x.1.1⟩ (fun x=>by kernel_rfl)
def aj0 (m:M.bH->Option Bool):bC K:=cB 189 ⟨[.el U.Ins],[]⟩ (fun x=>m x.1.1)
def anL : Cx K:=fG [(236, .plain),(32, .plain)] [Uc M.GV,kX M.yH] []
theorem asY : aG anL:=ai aQ _ (aj anM (aj oZ aW))
theorem awz : dA (aj0 (M.Nw)):= fK (cx:=anL) true asY Tryz.func189 (aV (ah (by kernel_rfl))) ⟨⟨[.bool],[]⟩,fun x=>x.1.1⟩ (fun x=>by kernel_rfl)
def Ud (m:M.bH->Option Bool):bC K:=cB 188 ⟨[.el U.Ins],[]⟩ (fun x=>m x.1.1)
def WO : Cx K:=fG [(189, .plain)] [aj0 M.Nw] []
theorem ah3 : aG WO:=ai aQ _ (aj awz aW)
theorem anN : dA (Ud (M.GX)):= fK (cx:=WO) true ah3 Tryz.func188 (aV (ah (by kernel_rfl))) ⟨⟨[.bool],[]⟩,fun x=>x.1.1⟩ (fun x=>by kernel_rfl)
def EG (y:Int⊕Unit) {R:Type} (k:KT R):R:=match y with | .inl a0=>kk k Ex.ret ⟨[.int .i64],[]⟩ ((a0,()),()) | .inr a1=>kk k (Ex.exit 0) ⟨[.any],[]⟩ (((),()),())
def EY : List (dm K ((Int)⊕Unit)):=[⟨Ex.ret,⟨[.int .i64],[]⟩,fun x=> .inl x.1.1⟩,⟨(Ex.exit 0),⟨[.any],[]⟩,fun x=> .inr (())⟩]
def vY : cZ K:=dn D false 19 0 [0,1,7,8] [4] ⟨[.aZ U.Ins, .fn 188 [], .int .i64, .int .i64],[]⟩ (fun x=>M.gB x.1.1 x.1.2.2.1 aA x.1.2.2.2.1) EG
def xJ (m:(List M.bH)->Option Int):bC K:=cI 235 ⟨[.aZ U.Ins, .fn 188 []],[]⟩ (fun x=>m x.1.1)
def kC : Cx K:=fG [(188, .plain)] [Ud M.GX] [(2,vY)]
theorem vZ : aG kC:=ai aQ _ (aj anN aW)
theorem EH : bG kC (bD (bI Tryz.f235) 0) vY:= bn (cx:=kC) (sh:=⟨[.aZ U.Ins, .fn 188 [], .int .i64, .int .i64],[]⟩) (run:=fun n x=>M.gB x.1.1 x.1.2.2.1 n x.1.2.2.2.1) (di:=EY) aQ vZ aH (ah (by kernel_rfl)) (fun _=>rfl) (fun m x=>by kernel_rfl) (aj ⟨dC,fun _ _ _=>rfl⟩ (aj ⟨bu,fun _ _ _=>rfl⟩ aW)) false aA
theorem Jn : dA (xJ (M.mJ)):= fK (cx:=kC) true vZ Tryz.func235 (aV (aP 1 (by kernel_rfl) (bQ (.mk (by kernel_rfl) EH)))) ⟨⟨[.int .i64],[]⟩,fun x=>x.1.1⟩ (fun x=>by kernel_rfl)
def uG (m:(List M.bH)->Option Bool):bC K:=cB 187 ⟨[.aZ U.Ins, .fn 188 []],[]⟩ (fun x=>m x.1.1)
def ve : Cx K:=fG [(235, .plain)] [xJ M.mJ] []
theorem DJ : aG ve:=ai aQ _ (aj Jn aW)
theorem EZ : dA (uG (M.je)):= fK (cx:=ve) true DJ Tryz.func187 (aV (ah (by kernel_rfl))) ⟨⟨[.bool],[]⟩,fun x=>x.1.1⟩ (fun x=>by kernel_rfl)
def ae7 (m:M.aJ->Option Bool):bC K:=cB 155 ⟨[.el U.Core],[]⟩ (fun x=>m x.1.1)
def aj1 : Cx K:=fG [(32, .plain),(187, .plain)] [kX M.yH,uG M.je] []
theorem aqC : aG aj1:=ai aQ _ (aj oZ (aj EZ aW))
theorem auD : dA (ae7 (M.WQ)):= fK (cx:=aj1) true aqC Tryz.func155 (aV (ah (by kernel_rfl))) ⟨⟨[.bool],[]⟩,fun x=>x.1.1⟩ (fun x=>by kernel_rfl)
def agI (m:M.ay->Option Bool):bC K:=cB 11 ⟨[.el U.bJ],[]⟩ (fun x=>m x.1.1)
def amN : Cx K:=fG [(21, .plain)] [WM M.ES] []
theorem ap7 : aG amN:=ai aQ _ (aj aqB aW)
theorem aty : dA (agI (M.acA)):= fK (cx:=amN) true ap7 Tryz.func11 (aV (ah (by kernel_rfl))) ⟨⟨[.bool],[]⟩,fun x=>x.1.1⟩ (fun x=>by kernel_rfl)
def aze (y:(Bool×M.aK)⊕(M.aK)) {R:Type} (k:KT R):R:=match y with | .inl a0=>kk k Ex.ret ⟨[.ptr 0 0, .bool],[.el U.Builtin]⟩ (((),(a0.1,())),(a0.2,())) | .inr a1=>kk k (Ex.exit 0) ⟨[.ptr 0 0, .any],[.el U.Builtin]⟩ (((),((),())),(a1,()))
def aAe : List (dm K ((Bool×M.aK)⊕(M.aK))):=[⟨Ex.ret,⟨[.ptr 0 0, .bool],[.el U.Builtin]⟩,fun x=> .inl (x.1.2.1,x.2.1)⟩,⟨(Ex.exit 0),⟨[.ptr 0 0, .any],[.el U.Builtin]⟩,fun x=> .inr (x.2.1)⟩]
def arQ : cZ K:=dn D false 34 1 [0,1,4,6] [4,5] ⟨[.rp U.bJ 0, .str, .ptr 0 0, .int .i64],[.el U.Builtin]⟩ (fun x=>M.UX x.1.1 x.1.2.1 x.2.1 aA x.1.2.2.2.1) aze
def awq (m:M.ay->(List UInt8)->Option (M.aK×Bool)):bC K:={f:=42,sh:=⟨[.rp U.bJ 0, .str],[]⟩,R:=M.aK×Bool,run:=fun x=>m x.1.1 x.1.2.1,dflt:=default,out:=fun r=>(Sh.enc D (.nS [.el U.Builtin, .bool]) (r.1,(r.2,())),iY.encs D [] ())}
def aoG : Cx K:=fG [] [] [(2,arQ)]
theorem avo : aG aoG:=ai aQ _ aW
theorem azC : bG aoG (bD (bI Tryz.f42) 0) arQ:= bn (cx:=aoG) (sh:=⟨[.rp U.bJ 0, .str, .ptr 0 0, .int .i64],[.el U.Builtin]⟩) (run:=fun n x=>M.UX x.1.1 x.1.2.1 x.2.1 n x.1.2.2.2.1) (di:=aAe) aQ avo aH (ah (by kernel_rfl)) (fun _=>rfl) (fun m x=>by kernel_rfl) (aj ⟨dC,fun _ _ _=>rfl⟩ (aj ⟨bu,fun _ _ _=>rfl⟩ aW)) false aA
theorem aCk : dA (awq (M.atz)):= fK (cx:=aoG) true avo Tryz.func42 (aV (aP 1 (by kernel_rfl) (bQ (.mk (by kernel_rfl) azC)))) ⟨⟨[.nS [.el U.Builtin, .bool]],[]⟩,fun x=>(x.1.1.1,x.1.1.2.1)⟩ (fun x=>by kernel_rfl)
def aw4 (m:M.ay->(List UInt8)->Option (M.aK×Bool)):bC K:={f:=13,sh:=⟨[.el U.bJ, .str],[]⟩,R:=M.aK×Bool,run:=fun x=>m x.1.1 x.1.2.1,dflt:=default,out:=fun r=>(Sh.enc D (.nS [.el U.Builtin, .bool]) (r.1,(r.2,())),iY.encs D [] ())}
def ayG : Cx K:=fG [(11, .plain),(42, .plain)] [agI M.acA,awq M.atz] []
theorem aCe : aG ayG:=ai aQ _ (aj aty (aj aCk aW))
theorem aCN : dA (aw4 (M.avd)):= fK (cx:=ayG) true aCe Tryz.func13 (aV (ah (by kernel_rfl))) ⟨⟨[.nS [.el U.Builtin, .bool]],[]⟩,fun x=>(x.1.1.1,x.1.1.2.1)⟩ (fun x=>by kernel_rfl)
def ae8 (m:M.dG->M.dG->Option Bool):bC K:=cB 82 ⟨[.el U.qZ, .el U.qZ],[]⟩ (fun x=>m x.1.1 x.1.2.1)
def aj2 : Cx K:=fG [] [] []
theorem aqD : aG aj2:=ai aQ _ aW
theorem auE : dA (ae8 (M.WR)):= fK (cx:=aj2) true aqD Tryz.func82 (aV (ah (by kernel_rfl))) ⟨⟨[.bool],[]⟩,fun x=>x.1.1⟩ (fun x=>by kernel_rfl)
def ah4 (y:Bool⊕Unit) {R:Type} (k:KT R):R:=match y with | .inl a0=>kk k Ex.ret ⟨[.bool],[]⟩ ((a0,()),()) | .inr a1=>kk k (Ex.exit 0) ⟨[.any],[]⟩ (((),()),())
def alK : List (dm K ((Bool)⊕Unit)):=[⟨Ex.ret,⟨[.bool],[]⟩,fun x=> .inl x.1.1⟩,⟨(Ex.exit 0),⟨[.any],[]⟩,fun x=> .inr (())⟩]
def WS : cZ K:=dn D false 27 0 [0,1,5] [4] ⟨[.aZ U.qZ, .aZ U.qZ, .int .i64],[]⟩ (fun x=>M.wY x.1.1 x.1.2.1 aA x.1.2.2.1) ah4
def abu (m:(List M.dG)->(List M.dG)->Option Bool):bC K:=cB 39 ⟨[.aZ U.qZ, .aZ U.qZ],[]⟩ (fun x=>m x.1.1 x.1.2.1)
def Jo : Cx K:=fG [(82, .plain)] [ae8 M.WR] [(4,WS)]
theorem WT : aG Jo:=ai aQ _ (aj auE aW)
theorem ah5 : bG Jo (bD (bI Tryz.f39) 0) WS:= bn (cx:=Jo) (sh:=⟨[.aZ U.qZ, .aZ U.qZ, .int .i64],[]⟩) (run:=fun n x=>M.wY x.1.1 x.1.2.1 n x.1.2.2.1) (di:=alK) aQ WT aH (ah (by kernel_rfl)) (fun _=>rfl) (fun m x=>by kernel_rfl) (aj ⟨dC,fun _ _ _=>rfl⟩ (aj ⟨bu,fun _ _ _=>rfl⟩ aW)) false aA
theorem asZ : dA (abu (M.PW)):= fK (cx:=Jo) true WT Tryz.func39 (aV (aP 1 (by kernel_rfl) (bQ (.mk (by kernel_rfl) ah5)))) ⟨⟨[.bool],[]⟩,fun x=>x.1.1⟩ (fun x=>by kernel_rfl)
def abv (m:M.bK->M.bK->Option Bool):bC K:=cB 83 ⟨[.el U.Lower, .el U.Lower],[]⟩ (fun x=>m x.1.1 x.1.2.1)
def ae9 : Cx K:=fG [] [] []
theorem anO : aG ae9:=ai aQ _ aW
theorem as1 : dA (abv (M.PX)):= fK (cx:=ae9) true anO Tryz.func83 (aV (ah (by kernel_rfl))) ⟨⟨[.bool],[]⟩,fun x=>x.1.1⟩ (fun x=>by kernel_rfl)
def afa (y:Bool⊕Unit) {R:Type} (k:KT R):R:=match y with | .inl a0=>kk k Ex.ret ⟨[.bool],[]⟩ ((a0,()),()) | .inr a1=>kk k (Ex.exit 0) ⟨[.any],[]⟩ (((),()),())
def ah6 : List (dm K ((Bool)⊕Unit)):=[⟨Ex.ret,⟨[.bool],[]⟩,fun x=> .inl x.1.1⟩,⟨(Ex.exit 0),⟨[.any],[]⟩,fun x=> .inr (())⟩]
def Ue : cZ K:=dn D false 27 0 [0,1,5] [4] ⟨[.aZ U.Lower, .aZ U.Lower, .int .i64],[]⟩ (fun x=>M.uh x.1.1 x.1.2.1 aA x.1.2.2.1) afa
def WU (m:(List M.bK)->(List M.bK)->Option Bool):bC K:=cB 40 ⟨[.aZ U.Lower, .aZ U.Lower],[]⟩ (fun x=>m x.1.1 x.1.2.1)
def FV : Cx K:=fG [(83, .plain)] [abv M.PX] [(4,Ue)]
theorem Uf : aG FV:=ai aQ _ (aj as1 aW)
theorem afb : bG FV (bD (bI Tryz.f40) 0) Ue:= bn (cx:=FV) (sh:=⟨[.aZ U.Lower, .aZ U.Lower, .int .i64],[]⟩) (run:=fun n x=>M.uh x.1.1 x.1.2.1 n x.1.2.2.1) (di:=ah6) aQ Uf aH (ah (by kernel_rfl)) (fun _=>rfl) (fun m x=>by kernel_rfl) (aj ⟨dC,fun _ _ _=>rfl⟩ (aj ⟨bu,fun _ _ _=>rfl⟩ aW)) false aA
theorem aqE : dA (WU (M.KN)):= fK (cx:=FV) true Uf Tryz.func40 (aV (aP 1 (by kernel_rfl) (bQ (.mk (by kernel_rfl) afb)))) ⟨⟨[.bool],[]⟩,fun x=>x.1.1⟩ (fun x=>by kernel_rfl)
def Ug (m:M.aK->M.aK->Option Bool):bC K:=cB 15 ⟨[.el U.Builtin, .el U.Builtin],[]⟩ (fun x=>m x.1.1 x.1.2.1)
def WV : Cx K:=fG [] [] []
theorem ah7 : aG WV:=ai aQ _ aW
theorem anP : dA (Ug (M.BX)):= fK (cx:=WV) true ah7 Tryz.func15 (aV (ah (by kernel_rfl))) ⟨⟨[.bool],[]⟩,fun x=>x.1.1⟩ (fun x=>by kernel_rfl)
def aar (y:Bool⊕Unit) {R:Type} (k:KT R):R:=match y with | .inl a0=>kk k Ex.ret ⟨[.bool],[]⟩ ((a0,()),()) | .inr a1=>kk k (Ex.exit 0) ⟨[.any],[]⟩ (((),()),())
def ade : List (dm K ((Bool)⊕Unit)):=[⟨Ex.ret,⟨[.bool],[]⟩,fun x=> .inl x.1.1⟩,⟨(Ex.exit 0),⟨[.any],[]⟩,fun x=> .inr (())⟩]
def Ny : cZ K:=dn D false 27 0 [0,1,5] [4] ⟨[.aZ U.Builtin, .aZ U.Builtin, .int .i64],[]⟩ (fun x=>M.oH x.1.1 x.1.2.1 aA x.1.2.2.1) aar
def PY (m:(List M.aK)->(List M.aK)->Option Bool):bC K:=cB 41 ⟨[.aZ U.Builtin, .aZ U.Builtin],[]⟩ (fun x=>m x.1.1 x.1.2.1)
def Bc : Cx K:=fG [(15, .plain)] [Ug M.BX] [(4,Ny)]
theorem Nz : aG Bc:=ai aQ _ (aj anP aW)
theorem aas : bG Bc (bD (bI Tryz.f41) 0) Ny:= bn (cx:=Bc) (sh:=⟨[.aZ U.Builtin, .aZ U.Builtin, .int .i64],[]⟩) (run:=fun n x=>M.oH x.1.1 x.1.2.1 n x.1.2.2.1) (di:=ade) aQ Nz aH (ah (by kernel_rfl)) (fun _=>rfl) (fun m x=>by kernel_rfl) (aj ⟨dC,fun _ _ _=>rfl⟩ (aj ⟨bu,fun _ _ _=>rfl⟩ aW)) false aA
theorem alL : dA (PY (M.DK)):= fK (cx:=Bc) true Nz Tryz.func41 (aV (aP 1 (by kernel_rfl) (bQ (.mk (by kernel_rfl) aas)))) ⟨⟨[.bool],[]⟩,fun x=>x.1.1⟩ (fun x=>by kernel_rfl)
def NC (m:M.ay->M.ay->Option Bool):bC K:=cB 10 ⟨[.el U.bJ, .el U.bJ],[]⟩ (fun x=>m x.1.1 x.1.2.1)
def PZ : Cx K:=fG [(37, .plain),(38, .plain),(39, .plain),(40, .plain),(41, .plain)] [aa2 M.JV,WW M.KO,abu M.PW,WU M.KN,PY M.DK] []
theorem adf : aG PZ:=ai aQ _ (aj asJ (aj aqF (aj asZ (aj aqE (aj alL aW)))))
theorem ah8 : dA (NC (M.ui)):= fK (cx:=PZ) true adf Tryz.func10 (aV (ah (by kernel_rfl))) ⟨⟨[.bool],[]⟩,fun x=>x.1.1⟩ (fun x=>by kernel_rfl)
def WX (y:Bool⊕(M.aI×(List (List UInt8))×(List (List UInt8)))) {R:Type} (k:KT R):R:=match y with | .inl a0=>kk k Ex.ret ⟨[.any, .any, .any, .bool],[.dead, .dead, .dead, .dead, .dead]⟩ (((),((),((),(a0,())))),((),((),((),((),((),())))))) | .inr a1=>kk k (Ex.exit 0) ⟨[.ptr 0 0, .own 3, .own 4, .any],[.el U.Module, .dead, .dead, .arr U.str, .arr U.str]⟩ (((),((),((),((),())))),(a1.1,((),((),(a1.2.1,(a1.2.2,()))))))
def aat : List (dm K ((Bool)⊕(M.aI×(List (List UInt8))×(List (List UInt8))))):=[⟨Ex.ret,⟨[.any, .any, .any, .bool],[.dead, .dead, .dead, .dead, .dead]⟩,fun x=> .inl x.1.2.2.2.1⟩,⟨(Ex.exit 0),⟨[.ptr 0 0, .own 3, .own 4, .any],[.el U.Module, .dead, .dead, .arr U.str, .arr U.str]⟩,fun x=> .inr ((x.2.1,x.2.2.2.2.1,x.2.2.2.2.2.1))⟩]
def KP : cZ K:=dn D false 66 3 [1,3,4,28,29,30] [1,3,4,2] ⟨[.ptr 0 0, .own 3, .own 4, .aZ U.Import, .int .i64, .int .i64],[.el U.Module, .dead, .dead, .arr U.str, .arr U.str]⟩ (fun x=>M.jX x.1.2.2.2.1 x.1.2.2.2.2.1 x.2.1 x.2.2.2.2.2.1 aA x.1.2.2.2.2.2.1 x.2.2.2.2.1) WX
def WY (y:Bool⊕((List (List UInt8))×(List (List UInt8)))) {R:Type} (k:KT R):R:=match y with | .inl a0=>kk k Ex.ret ⟨[.any, .any, .bool],[.dead, .dead, .dead, .dead]⟩ (((),((),(a0,()))),((),((),((),((),()))))) | .inr a1=>kk k (Ex.exit 2) ⟨[.own 2, .own 3, .any],[.dead, .dead, .arr U.str, .arr U.str]⟩ (((),((),((),()))),((),((),(a1.1,(a1.2,())))))
def aau : List (dm K ((Bool)⊕((List (List UInt8))×(List (List UInt8))))):=[⟨Ex.ret,⟨[.any, .any, .bool],[.dead, .dead, .dead, .dead]⟩,fun x=> .inl x.1.2.2.1⟩,⟨(Ex.exit 2),⟨[.own 2, .own 3, .any],[.dead, .dead, .arr U.str, .arr U.str]⟩,fun x=> .inr ((x.2.2.2.1,x.2.2.2.2.1))⟩]
def KQ : cZ K:=dn D false 66 2 [3,4,45,46,47] [3,4,2] ⟨[.own 2, .own 3, .aZ U.Core, .int .i64, .int .i64],[.dead, .dead, .arr U.str, .arr U.str]⟩ (fun x=>M.jY x.1.2.2.1 x.1.2.2.2.1 x.2.2.2.1 aA x.1.2.2.2.2.1 x.2.2.2.2.1) WY
def alM (y:Bool⊕((List UInt8))) {R:Type} (k:KT R):R:=match y with | .inl a0=>kk k Ex.ret ⟨[.any, .bool],[]⟩ (((),(a0,())),()) | .inr a1=>kk k (Ex.exit 0) ⟨[.str, .any],[]⟩ ((a1,((),())),())
def anQ : List (dm K ((Bool)⊕((List UInt8)))):=[⟨Ex.ret,⟨[.any, .bool],[]⟩,fun x=> .inl x.1.2.1⟩,⟨(Ex.exit 0),⟨[.str, .any],[]⟩,fun x=> .inr (x.1.1)⟩]
def abw : cZ K:=dn D false 32 0 [0,5,6] [0,2] ⟨[.str, .int .i64, .int .i64],[]⟩ (fun x=>M.yV x.1.1 x.1.2.1 aA x.1.2.2.1) alM
def afc (m:(List UInt8)->Option Bool):bC K:=cB 191 ⟨[.str],[]⟩ (fun x=>m x.1.1)
def ND : Cx K:=fG [(237, .plain),(238, .plain),(239, .plain),(240, .plain),(32, .plain)] [WZ M.anR,abx M.arJ,yg M.strings_IndexByte,afd M.auF,kX M.yH] [(2,abw)]
theorem aby : aG ND:=ai aQ _ (aj aqG (aj as2 (aj W9 (aj auG (aj oZ aW)))))
theorem alN : bG ND (bD (bI Tryz.f191) 0) abw:= bn (cx:=ND) (sh:=⟨[.str, .int .i64, .int .i64],[]⟩) (run:=fun n x=>M.yV x.1.1 x.1.2.1 n x.1.2.2.1) (di:=anQ) aQ aby aH (ah (by kernel_rfl)) (fun _=>rfl) (fun m x=>by kernel_rfl) (aj ⟨dC,fun _ _ _=>rfl⟩ (aj ⟨bu,fun _ _ _=>rfl⟩ aW)) false aA
theorem auH : dA (afc (M.Xa)):= fK (cx:=ND) true aby Tryz.func191 (aV (aP 1 (by kernel_rfl) (bQ (.mk (by kernel_rfl) alN)))) ⟨⟨[.bool],[]⟩,fun x=>x.1.1⟩ (fun x=>by kernel_rfl)
def P5 (m:(List UInt8)->Option Bool):bC K:=cB 190 ⟨[.str],[]⟩ (fun x=>m x.1.1)
def Uh : Cx K:=fG [(191, .plain)] [afc M.Xa] []
theorem afe : aG Uh:=ai aQ _ (aj auH aW)
theorem alO : dA (P5 (M.DL)):= fK (cx:=Uh) true afe Tryz.func190 (aV (ah (by kernel_rfl))) ⟨⟨[.bool],[]⟩,fun x=>x.1.1⟩ (fun x=>by kernel_rfl)
def yC (y:Int⊕Unit) {R:Type} (k:KT R):R:=match y with | .inl a0=>kk k Ex.ret ⟨[.int .i64],[]⟩ ((a0,()),()) | .inr a1=>kk k (Ex.exit 0) ⟨[.any],[]⟩ (((),()),())
def yX : List (dm K ((Int)⊕Unit)):=[⟨Ex.ret,⟨[.int .i64],[]⟩,fun x=> .inl x.1.1⟩,⟨(Ex.exit 0),⟨[.any],[]⟩,fun x=> .inr (())⟩]
def nZ : cZ K:=dn D false 19 0 [0,1,7,8] [4] ⟨[.aZ U.str, .fn 190 [], .int .i64, .int .i64],[]⟩ (fun x=>M.dV x.1.1 x.1.2.2.1 aA x.1.2.2.2.1) yC
def oO (m:(List (List UInt8))->Option Int):bC K:=cI 147 ⟨[.aZ U.str, .fn 190 []],[]⟩ (fun x=>m x.1.1)
def iK : Cx K:=fG [(190, .plain)] [P5 M.DL] [(2,nZ)]
theorem oh : aG iK:=ai aQ _ (aj alO aW)
theorem yD : bG iK (bD (bI Tryz.f147) 0) nZ:= bn (cx:=iK) (sh:=⟨[.aZ U.str, .fn 190 [], .int .i64, .int .i64],[]⟩) (run:=fun n x=>M.dV x.1.1 x.1.2.2.1 n x.1.2.2.2.1) (di:=yX) aQ oh aH (ah (by kernel_rfl)) (fun _=>rfl) (fun m x=>by kernel_rfl) (aj ⟨dC,fun _ _ _=>rfl⟩ (aj ⟨bu,fun _ _ _=>rfl⟩ aW)) false aA
theorem Au : dA (oO (M.jf)):= fK (cx:=iK) true oh Tryz.func147 (aV (aP 1 (by kernel_rfl) (bQ (.mk (by kernel_rfl) yD)))) ⟨⟨[.int .i64],[]⟩,fun x=>x.1.1⟩ (fun x=>by kernel_rfl)
def mg (m:(List (List UInt8))->Option Bool):bC K:=cB 103 ⟨[.aZ U.str, .fn 190 []],[]⟩ (fun x=>m x.1.1)
def nG : Cx K:=fG [(147, .plain)] [oO M.jf] []
theorem yh : aG nG:=ai aQ _ (aj Au aW)
theorem yY : dA (mg (M.gK)):= fK (cx:=nG) true yh Tryz.func103 (aV (ah (by kernel_rfl))) ⟨⟨[.bool],[]⟩,fun x=>x.1.1⟩ (fun x=>by kernel_rfl)
def abz (m:(List (List UInt8))->Option Bool):bC K:=cB 156 ⟨[.aZ U.str],[]⟩ (fun x=>m x.1.1)
def aff : Cx K:=fG [(78, .plain),(103, .plain)] [uT M.kY,mg M.gK] []
theorem anS : aG aff:=ai aQ _ (aj FO (aj yY aW))
theorem as3 : dA (abz (M.JY)):= fK (cx:=aff) true anS Tryz.func156 (aV (ah (by kernel_rfl))) ⟨⟨[.bool],[]⟩,fun x=>x.1.1⟩ (fun x=>by kernel_rfl)
def yj (m:M.aI->Option Bool):bC K:=cB 114 ⟨[.el U.Module],[]⟩ (fun x=>m x.1.1)
def qm : Cx K:=fG [(32, .plain),(155, .plain),(156, .plain)] [kX M.yH,ae7 M.WQ,abz M.JY] [(5,KP),(12,KQ)]
theorem BC : aG qm:=ai aQ _ (aj oZ (aj auD (aj as3 aW)))
theorem Xb : bG qm (bD (bI Tryz.f114) 0) KP:= bn (cx:=qm) (sh:=⟨[.ptr 0 0, .own 3, .own 4, .aZ U.Import, .int .i64, .int .i64],[.el U.Module, .dead, .dead, .arr U.str, .arr U.str]⟩) (run:=fun n x=>M.jX x.1.2.2.2.1 x.1.2.2.2.2.1 x.2.1 x.2.2.2.2.2.1 n x.1.2.2.2.2.2.1 x.2.2.2.2.1) (di:=aat) aQ BC aH (ah (by kernel_rfl)) (fun _=>rfl) (fun m x=>by kernel_rfl) (aj ⟨dC,fun _ _ _=>rfl⟩ (aj ⟨bu,fun _ _ _=>rfl⟩ aW)) false aA
theorem Xc : bG qm (bD (bI Tryz.f114) 1) KQ:= bn (cx:=qm) (sh:=⟨[.own 2, .own 3, .aZ U.Core, .int .i64, .int .i64],[.dead, .dead, .arr U.str, .arr U.str]⟩) (run:=fun n x=>M.jY x.1.2.2.1 x.1.2.2.2.1 x.2.2.2.1 n x.1.2.2.2.2.1 x.2.2.2.2.1) (di:=aau) aQ BC aH (ah (by kernel_rfl)) (fun _=>rfl) (fun m x=>by kernel_rfl) (aj ⟨dC,fun _ _ _=>rfl⟩ (aj ⟨bu,fun _ _ _=>rfl⟩ aW)) false aA
theorem E5 : dA (yj (M.mM)):= fK (cx:=qm) true BC Tryz.func114 (aV (aP 2 (by kernel_rfl) (lt_succ (bQ (.mk (by kernel_rfl) Xb)) (.mk (by kernel_rfl) Xc)))) ⟨⟨[.bool],[]⟩,fun x=>x.1.1⟩ (fun x=>by kernel_rfl)
def Xd (y:(Int×Int×Int)⊕Unit) {R:Type} (k:KT R):R:=match y with | .inl a0=>kk k Ex.ret ⟨[.int .i64, .int .i64, .int .i64],[.dead]⟩ ((a0.1,(a0.2.1,(a0.2.2,()))),((),())) | .inr a1=>kk k (Ex.exit 0) ⟨[.any, .any, .any],[.dead]⟩ (((),((),((),()))),((),()))
def aav : List (dm K ((Int×Int×Int)⊕Unit)):=[⟨Ex.ret,⟨[.int .i64, .int .i64, .int .i64],[.dead]⟩,fun x=> .inl (x.1.1,x.1.2.1,x.1.2.2.1)⟩,⟨(Ex.exit 0),⟨[.any, .any, .any],[.dead]⟩,fun x=> .inr (())⟩]
def KR : cZ K:=dn D false 30 1 [1,12,13] [2,3,4] ⟨[.ptr 0 0, .int .i64, .int .i64],[.el U.Module]⟩ (fun x=>M.jZ x.1.2.1 x.2.1 aA x.1.2.2.1) Xd
def NF (m:M.aI->Option (Int×Int×Int)):bC K:={f:=115,sh:=⟨[.el U.Module],[]⟩,R:=Int×Int×Int,run:=fun x=>m x.1.1,dflt:=default,out:=fun r=>(Sh.enc D (.nS [.int .i64, .int .i64, .int .i64]) (r.1,(r.2.1,(r.2.2,()))),iY.encs D [] ())}
def zH : Cx K:=fG [(157, .plain),(158, .fresh)] [Iu M.Xe,abA M.P6] [(2,KR)]
theorem KU : aG zH:=ai aQ _ (aj Xf (aj as4 aW))
theorem Xg : bG zH (bD (bI Tryz.f115) 0) KR:= bn (cx:=zH) (sh:=⟨[.ptr 0 0, .int .i64, .int .i64],[.el U.Module]⟩) (run:=fun n x=>M.jZ x.1.2.1 x.2.1 n x.1.2.2.1) (di:=aav) aQ KU aH (ah (by kernel_rfl)) (fun _=>rfl) (fun m x=>by kernel_rfl) (aj ⟨dC,fun _ _ _=>rfl⟩ (aj ⟨bu,fun _ _ _=>rfl⟩ aW)) false aA
theorem ah9 : dA (NF (M.Aw)):= fK (cx:=zH) true KU Tryz.func115 (aV (aP 1 (by kernel_rfl) (bQ (.mk (by kernel_rfl) Xg)))) ⟨⟨[.nS [.int .i64, .int .i64, .int .i64]],[]⟩,fun x=>(x.1.1.1,x.1.1.2.1,x.1.1.2.2.1)⟩ (fun x=>by kernel_rfl)
def NG (m:M.aI->Option (Int×Int×Int)):bC K:={f:=72,sh:=⟨[.el U.Module],[]⟩,R:=Int×Int×Int,run:=fun x=>m x.1.1,dflt:=default,out:=fun r=>(Sh.enc D (.nS [.int .i64, .int .i64, .int .i64]) (r.1,(r.2.1,(r.2.2,()))),iY.encs D [] ())}
def P7 : Cx K:=fG [(114, .plain),(115, .plain)] [yj M.mM,NF M.Aw] []
theorem adg : aG P7:=ai aQ _ (aj E5 (aj ah9 aW))
theorem aia : dA (NG (M.Az)):= fK (cx:=P7) true adg Tryz.func72 (aV (ah (by kernel_rfl))) ⟨⟨[.nS [.int .i64, .int .i64, .int .i64]],[]⟩,fun x=>(x.1.1.1,x.1.1.2.1,x.1.1.2.2.1)⟩ (fun x=>by kernel_rfl)
def Xh (m:M.aI->Option Bool):bC K:=cB 31 ⟨[.el U.Module],[]⟩ (fun x=>m x.1.1)
def abB : Cx K:=fG [(72, .plain)] [NG M.Az] []
theorem alP : aG abB:=ai aQ _ (aj aia aW)
theorem aqH : dA (Xh (M.KW)):= fK (cx:=abB) true alP Tryz.func31 (aV (ah (by kernel_rfl))) ⟨⟨[.bool],[]⟩,fun x=>x.1.1⟩ (fun x=>by kernel_rfl)
def aaw (y:(List M.aN)×Int×Int×(List M.dX)) {R:Type} (k:KT R):R:=match y with |a0=>kk k (Ex.exit 2) ⟨[.own 2, .aZ U.bV, .int .i64, .int .i64],[.dead, .dead, .arr U.bound]⟩ (((),(a0.1,(a0.2.1,(a0.2.2.1,())))),((),((),(a0.2.2.2,()))))
def adh : List (dm K ((List M.aN)×Int×Int×(List M.dX))):=[⟨(Ex.exit 2),⟨[.own 2, .aZ U.bV, .int .i64, .int .i64],[.dead, .dead, .arr U.bound]⟩,fun x=>(x.1.2.1,x.1.2.2.1,x.1.2.2.2.1,x.2.2.2.1)⟩]
def NH : cZ K:=dn D false 35 2 [3,5,9,10,11,16,17,18] [3,9,10,11] ⟨[.own 2, .ptr 1 0, .aZ U.bV, .int .i64, .int .i64, .aZ U.Func, .int .i64, .int .i64],[.dead, .el U.bV, .arr U.bound]⟩ (fun x=>M.lL x.1.2.2.1 x.1.2.2.2.1 x.1.2.2.2.2.1 x.1.2.2.2.2.2.1 x.1.2.2.2.2.2.2.1 x.2.2.1 aA x.1.2.2.2.2.2.2.2.1 x.2.2.2.1) aaw
def afg (y:(List M.dX)) {R:Type} (k:KT R):R:=match y with |a0=>kk k (Ex.exit 0) ⟨[.own 1],[.dead, .arr U.bound]⟩ (((),()),((),(a0,())))
def aib : List (dm K ((List M.dX))):=[⟨(Ex.exit 0),⟨[.own 1],[.dead, .arr U.bound]⟩,fun x=>x.2.2.1⟩]
def Ui : cZ K:=dn D false 35 1 [3,9,10,11] [3] ⟨[.own 1, .aZ U.bV, .int .i64, .int .i64],[.dead, .arr U.bound]⟩ (fun x=>M.kH aA x.1.2.1 x.1.2.2.1 x.1.2.2.2.1 x.2.2.1) afg
def KX (m:(List M.aN)->Option ((List M.dX))):bC K:={f:=73,sh:=⟨[.aZ U.bV],[]⟩,R:=(List M.dX),run:=fun x=>m x.1.1,dflt:=default,out:=fun r=>(Sh.enc D (.aZ U.bound) r,iY.encs D [] ())}
def xW : Cx K:=fG [(70, .plain)] [Dw M.oC] [(6,NH),(3,Ui)]
theorem Iw : aG xW:=ai aQ _ (aj OH aW)
theorem aax : bG xW (bD (bD (bI Tryz.f73) 0) 0) NH:= bn (cx:=xW) (sh:=⟨[.own 2, .ptr 1 0, .aZ U.bV, .int .i64, .int .i64, .aZ U.Func, .int .i64, .int .i64],[.dead, .el U.bV, .arr U.bound]⟩) (run:=fun n x=>M.lL x.1.2.2.1 x.1.2.2.2.1 x.1.2.2.2.2.1 x.1.2.2.2.2.2.1 x.1.2.2.2.2.2.2.1 x.2.2.1 n x.1.2.2.2.2.2.2.2.1 x.2.2.2.1) (di:=adh) aQ Iw aH (ah (by kernel_rfl)) (fun _=>rfl) (fun m x=>by kernel_rfl) (aj ⟨bu,fun _ _ _=>rfl⟩ aW) false aA
theorem afh : bG xW (bD (bI Tryz.f73) 0) Ui:= bn (cx:=xW) (sh:=⟨[.own 1, .aZ U.bV, .int .i64, .int .i64],[.dead, .arr U.bound]⟩) (run:=fun n x=>M.kH n x.1.2.1 x.1.2.2.1 x.1.2.2.2.1 x.2.2.1) (di:=aib) aQ Iw aH (aP 1 (by kernel_rfl) (bQ (.mk (by kernel_rfl) aax))) (fun _=>rfl) (fun m x=>by kernel_rfl) (aj ⟨bu,fun _ _ _=>rfl⟩ aW) false aA
theorem abC : dA (KX (M.Bo)):= fK (cx:=xW) true Iw Tryz.func73 (aV (aP 1 (by kernel_rfl) (bQ (.mk (by kernel_rfl) afh)))) ⟨⟨[.aZ U.bound],[]⟩,fun x=>x.1.1⟩ (fun x=>by kernel_rfl)
def Uj (m:M.aJ->(List UInt8)->Option Bool):bC K:=cB 117 ⟨[.el U.Core, .rp U.str 0],[]⟩ (fun x=>m x.1.1 x.1.2.1)
def Xi : Cx K:=fG [] [] []
theorem aic : aG Xi:=ai aQ _ aW
theorem anT : dA (Uj (M.aj3)):= fK (cx:=Xi) true aic Tryz.func117 (aV (ah (by kernel_rfl))) ⟨⟨[.bool],[]⟩,fun x=>x.1.1⟩ (fun x=>by kernel_rfl)
def CX (y:Int⊕Unit) {R:Type} (k:KT R):R:=match y with | .inl a0=>kk k Ex.ret ⟨[.int .i64],[]⟩ ((a0,()),()) | .inr a1=>kk k (Ex.exit 0) ⟨[.any],[]⟩ (((),()),())
def DN : List (dm K ((Int)⊕Unit)):=[⟨Ex.ret,⟨[.int .i64],[]⟩,fun x=> .inl x.1.1⟩,⟨(Ex.exit 0),⟨[.any],[]⟩,fun x=> .inr (())⟩]
def uH : cZ K:=dn D false 19 0 [0,1,7,8] [4] ⟨[.aZ U.Core, .fn 117 [.rp U.str 0], .int .i64, .int .i64],[]⟩ (fun x=>M.fM x.1.1 x.1.2.1.1 x.1.2.2.1 aA x.1.2.2.2.1) CX
def vg (m:(List M.aJ)->(List UInt8)->Option Int):bC K:=cI 116 ⟨[.aZ U.Core, .fn 117 [.rp U.str 0]],[]⟩ (fun x=>m x.1.1 x.1.2.1.1)
def jJ : Cx K:=fG [(117, .plain)] [Uj M.aj3] [(2,uH)]
theorem uI : aG jJ:=ai aQ _ (aj anT aW)
theorem CY : bG jJ (bD (bI Tryz.f116) 0) uH:= bn (cx:=jJ) (sh:=⟨[.aZ U.Core, .fn 117 [.rp U.str 0], .int .i64, .int .i64],[]⟩) (run:=fun n x=>M.fM x.1.1 x.1.2.1.1 x.1.2.2.1 n x.1.2.2.2.1) (di:=DN) aQ uI aH (ah (by kernel_rfl)) (fun _=>rfl) (fun m x=>by kernel_rfl) (aj ⟨dC,fun _ _ _=>rfl⟩ (aj ⟨bu,fun _ _ _=>rfl⟩ aW)) false aA
theorem GY : dA (vg (M.kU)):= fK (cx:=jJ) true uI Tryz.func116 (aV (aP 1 (by kernel_rfl) (bQ (.mk (by kernel_rfl) CY)))) ⟨⟨[.int .i64],[]⟩,fun x=>x.1.1⟩ (fun x=>by kernel_rfl)
def afi (m:M.aI->(List UInt8)->Option (Int×Bool)):bC K:={f:=74,sh:=⟨[.el U.Module, .str],[]⟩,R:=Int×Bool,run:=fun x=>m x.1.1 x.1.2.1,dflt:=default,out:=fun r=>(Sh.enc D (.nS [.int .i64, .bool]) (r.1,(r.2,())),iY.encs D [] ())}
def aj6 : Cx K:=fG [(116, .plain),(114, .plain)] [vg M.kU,yj M.mM] []
theorem aqI : aG aj6:=ai aQ _ (aj GY (aj E5 aW))
theorem auI : dA (afi (M.Vo)):= fK (cx:=aj6) true aqI Tryz.func74 (aV (ah (by kernel_rfl))) ⟨⟨[.nS [.int .i64, .bool]],[]⟩,fun x=>(x.1.1.1,x.1.1.2.1)⟩ (fun x=>by kernel_rfl)
def gU (m:(List M.ae)->Option ((List Int))):bC K:={f:=160,sh:=⟨[.aZ U.Type],[]⟩,R:=(List Int),run:=fun x=>m x.1.1,dflt:=default,out:=fun r=>(Sh.enc D (.aZ U.i64) r,iY.encs D [] ())}
def aj7 (m:M.ae->Option ((List M.ae))):bC K:={f:=248,sh:=⟨[.el U.Type],[]⟩,R:=(List M.ae),run:=fun x=>m x.1.1,dflt:=default,out:=fun r=>(Sh.enc D (.aZ U.Type) r,iY.encs D [] ())}
def anU : Cx K:=fG [] [] []
theorem as5 : aG anU:=ai aQ _ aW
theorem awC : dA (aj7 (M.am1)):= fK (cx:=anU) true as5 Tryz.func248 (aV (ah (by kernel_rfl))) ⟨⟨[.aZ U.Type],[]⟩,fun x=>x.1.1⟩ (fun x=>by kernel_rfl)
def sK (m:M.ae->Option ((List Int))):bC K:={f:=197,sh:=⟨[.el U.Type],[]⟩,R:=(List Int),run:=fun x=>m x.1.1,dflt:=default,out:=fun r=>(Sh.enc D (.aZ U.i64) r,iY.encs D [] ())}
def alQ (y:(List Int)) {R:Type} (k:KT R):R:=match y with |a0=>kk k (Ex.exit 0) ⟨[.own 1],[.dead, .arr U.i64]⟩ (((),()),((),(a0,())))
def anV : List (dm K ((List Int))):=[⟨(Ex.exit 0),⟨[.own 1],[.dead, .arr U.i64]⟩,fun x=>x.2.2.1⟩]
def abD : cZ K:=dn D false 47 1 [0,1,5,13,14] [5] ⟨[.aZ U.i64, .aZ U.i64, .own 1, .int .i64, .int .i64],[.dead, .arr U.i64]⟩ (fun x=>M.wo x.1.1 x.1.2.1 x.1.2.2.2.1 aA x.1.2.2.2.2.1 x.2.2.1) alQ
def afj (m:(List Int)->(List Int)->Option ((List Int))):bC K:={f:=249,sh:=⟨[.aZ U.i64, .aZ U.i64],[]⟩,R:=(List Int),run:=fun x=>m x.1.1 x.1.2.1,dflt:=default,out:=fun r=>(Sh.enc D (.own 0) (),iY.encs D [.arr U.i64] (r,()))}
def NI : Cx K:={cx0 with mode:=uX .plain [],rsl:=[[some U.i64]],call:=callOf D [],loop:=ry [(3,abD)]}
theorem abE : aG NI:=ai aQ _ aW
theorem alR : bG NI (bD (bI Tryz.f249) 0) abD:= bn (cx:=NI) (sh:=⟨[.aZ U.i64, .aZ U.i64, .own 1, .int .i64, .int .i64],[.dead, .arr U.i64]⟩) (run:=fun n x=>M.wo x.1.1 x.1.2.1 x.1.2.2.2.1 n x.1.2.2.2.2.1 x.2.2.1) (di:=anV) aQ abE aH (ah (by kernel_rfl)) (fun _=>rfl) (fun m x=>by kernel_rfl) (aj ⟨bu,fun _ _ _=>rfl⟩ aW) false aA
theorem auJ : dA (afj (M.Xj)):= fK (cx:=NI) false abE Tryz.func249 (aV (aP 1 (by kernel_rfl) (bQ (.mk (by kernel_rfl) alR)))) ⟨⟨[.own 0],[.arr U.i64]⟩,fun x=>x.2.1⟩ (fun x=>by kernel_rfl)
def alS (y:(List Int)) {R:Type} (k:KT R):R:=match y with |a0=>kk k (Ex.exit 1) ⟨[.own 1],[.dead, .arr U.i64]⟩ (((),()),((),(a0,())))
def anW : List (dm K ((List Int))):=[⟨(Ex.exit 1),⟨[.own 1],[.dead, .arr U.i64]⟩,fun x=>x.2.2.1⟩]
def abG (dP:M.ae->Option ((List Int))):cZ K:=dn D false 45 1 [3,30,31,32] [3] ⟨[.own 1, .aZ U.Type, .int .i64, .int .i64],[.dead, .arr U.i64]⟩ (fun x=>M.wu dP x.1.2.1 x.1.2.2.1 aA x.1.2.2.2.1 x.2.2.1) alS
def NJ (aS:(List M.ae)->Option ((List Int))) (dP:M.ae->Option ((List Int))):Cx K:=fG [(160, .iD),(248, .iD),(197, .iD),(249, .fresh)] [gU aS,aj7 M.am1,sK dP,afj M.Xj] [(17,abG dP)]
theorem abH (aS:(List M.ae)->Option ((List Int))) (dR:dA (gU aS)) (dP:M.ae->Option ((List Int))) (xX:dA (sK dP)):aG (NJ aS dP):=ai aQ _ (aj dR (aj awC (aj xX (aj auJ aW))))
theorem alT (aS:(List M.ae)->Option ((List Int))) (dR:dA (gU aS)) (dP:M.ae->Option ((List Int))) (xX:dA (sK dP)):bG (NJ aS dP) (bD (bI Tryz.f197) 0) (abG dP):= bn (cx:=NJ aS dP) (sh:=⟨[.own 1, .aZ U.Type, .int .i64, .int .i64],[.dead, .arr U.i64]⟩) (run:=fun n x=>M.wu dP x.1.2.1 x.1.2.2.1 n x.1.2.2.2.1 x.2.2.1) (di:=anW) aQ (abH aS dR dP xX) aH (ah (by kernel_rfl)) (fun _=>rfl) (fun m x=>by kernel_rfl) (aj ⟨bu,fun _ _ _=>rfl⟩ aW) false aA
theorem aqJ (aS:(List M.ae)->Option ((List Int))) (dR:dA (gU aS)) (dP:M.ae->Option ((List Int))) (xX:dA (sK dP)):dA (sK (M.Sj aS dP)):= uA (cx:=NJ aS dP) (fz:=true) aQ (abH aS dR dP xX) aH ⟨Tryz.func197,by kernel_rfl⟩ (aV (aP 1 (by kernel_rfl) (bQ (.mk (by kernel_rfl) (alT aS dR dP xX))))) ⟨⟨[.aZ U.i64],[]⟩,fun x=>x.1.1⟩ (fun x=>rfl) (fun x=>by kernel_rfl)
theorem abI (aS:(List M.ae)->Option ((List Int))) (dR:dA (gU aS)):∀n,dA (sK (M.yZ aS n)) |0=>qQ fun _=>rfl |n+1=>aqJ aS dR (M.yZ aS n) (abI aS dR n)
theorem auK (aS:(List M.ae)->Option ((List Int))) (dR:dA (gU aS)):dA (sK (M.afk aS)):=abI aS dR aA
def adi (y:(List Int)) {R:Type} (k:KT R):R:=match y with |a0=>kk k (Ex.exit 0) ⟨[.own 1],[.dead, .arr U.i64]⟩ (((),()),((),(a0,())))
def afl : List (dm K ((List Int))):=[⟨(Ex.exit 0),⟨[.own 1],[.dead, .arr U.i64]⟩,fun x=>x.2.2.1⟩]
def P8 (aS:(List M.ae)->Option ((List Int))):cZ K:=dn D false 19 1 [3,7,8,9] [3] ⟨[.own 1, .aZ U.Type, .int .i64, .int .i64],[.dead, .arr U.i64]⟩ (fun x=>M.nH aS x.1.2.1 x.1.2.2.1 aA x.1.2.2.2.1 x.2.2.1) adi
def DR (aS:(List M.ae)->Option ((List Int))):Cx K:=fG [(197, .iD)] [sK (M.afk aS)] [(3,P8 aS)]
theorem P9 (aS:(List M.ae)->Option ((List Int))) (dR:dA (gU aS)):aG (DR aS):=ai aQ _ (aj (auK aS dR) aW)
theorem adk (aS:(List M.ae)->Option ((List Int))) (dR:dA (gU aS)):bG (DR aS) (bD (bI Tryz.f160) 0) (P8 aS):= bn (cx:=DR aS) (sh:=⟨[.own 1, .aZ U.Type, .int .i64, .int .i64],[.dead, .arr U.i64]⟩) (run:=fun n x=>M.nH aS x.1.2.1 x.1.2.2.1 n x.1.2.2.2.1 x.2.2.1) (di:=afl) aQ (P9 aS dR) aH (ah (by kernel_rfl)) (fun _=>rfl) (fun m x=>by kernel_rfl) (aj ⟨bu,fun _ _ _=>rfl⟩ aW) false aA
theorem aid (aS:(List M.ae)->Option ((List Int))) (dR:dA (gU aS)):dA (gU (M.FW aS)):= uA (cx:=DR aS) (fz:=true) aQ (P9 aS dR) aH ⟨Tryz.func160,by kernel_rfl⟩ (aV (aP 1 (by kernel_rfl) (bQ (.mk (by kernel_rfl) (adk aS dR))))) ⟨⟨[.aZ U.i64],[]⟩,fun x=>x.1.1⟩ (fun x=>rfl) (fun x=>by kernel_rfl)
theorem Qa : ∀n,dA (gU (M.mO n)) |0=>qQ fun _=>rfl |n+1=>aid (M.mO n) (Qa n)
theorem Xk : dA (gU (M.BZ)):=Qa aA
def Uk (m:(List M.ae)->Option Bool):bC K:=cB 159 ⟨[.aZ U.Type],[]⟩ (fun x=>m x.1.1)
def Xl : Cx K:=fG [(160, .iD)] [gU M.BZ] []
theorem aie : aG Xl:=ai aQ _ (aj Xk aW)
theorem anX : dA (Uk (M.NK)):= fK (cx:=Xl) true aie Tryz.func159 (aV (ah (by kernel_rfl))) ⟨⟨[.bool],[]⟩,fun x=>x.1.1⟩ (fun x=>by kernel_rfl)
def Qb (m:(List M.ae)->Option ((List Int))):bC K:={f:=119,sh:=⟨[.aZ U.Type],[]⟩,R:=(List Int),run:=fun x=>m x.1.1,dflt:=default,out:=fun r=>(Sh.enc D (.aZ U.i64) r,iY.encs D [] ())}
def Ul : Cx K:=fG [(159, .plain),(160, .iD)] [Uk M.NK,gU M.BZ] []
theorem afm : aG Ul:=ai aQ _ (aj anX (aj Xk aW))
theorem alU : dA (Qb (M.Jp)):= fK (cx:=Ul) true afm Tryz.func119 (aV (ah (by kernel_rfl))) ⟨⟨[.aZ U.i64],[]⟩,fun x=>x.1.1⟩ (fun x=>by kernel_rfl)
def Iy (m:M.af->Option (Int×Bool)):bC K:={f:=75,sh:=⟨[.el U.eQ],[]⟩,R:=Int×Bool,run:=fun x=>m x.1.1,dflt:=default,out:=fun r=>(Sh.enc D (.nS [.int .i64, .bool]) (r.1,(r.2,())),iY.encs D [] ())}
def Xm : Cx K:=fG [(111, .plain),(119, .iD),(118, .plain),(120, .plain)] [bC.frz D (RQ M.Dq),Qb M.Jp,zI M.Jq,Ja M.aep] []
theorem aif : aG Xm:=ai aQ _ (aj (bC.aC6 aQ ajQ rfl (fun _=>rfl)) (aj alU (aj Iz (aj VA aW))))
theorem Xn : dA (Iy (M.oW)):= fK (cx:=Xm) true aif Tryz.func75 (aV (ah (by kernel_rfl))) ⟨⟨[.nS [.int .i64, .bool]],[]⟩,fun x=>(x.1.1.1,x.1.1.2.1)⟩ (fun x=>by kernel_rfl)
def aih (y:Bool⊕Unit) {R:Type} (k:KT R):R:=match y with | .inl a0=>kk k Ex.ret ⟨[.bool],[.dead]⟩ ((a0,()),((),())) | .inr a1=>kk k (Ex.exit 0) ⟨[.any],[.dead]⟩ (((),()),((),()))
def alV : List (dm K ((Bool)⊕Unit)):=[⟨Ex.ret,⟨[.bool],[.dead]⟩,fun x=> .inl x.1.1⟩,⟨(Ex.exit 0),⟨[.any],[.dead]⟩,fun x=> .inr (())⟩]
def Xo : cZ K:=dn D false 84 1 [1,3,21,22,23] [2] ⟨[.ptr 0 0, .aZ U.bound, .aZ U.qZ, .int .i64, .int .i64],[.el U.bJ]⟩ (fun x=>M.wK x.1.2.1 x.1.2.2.1 x.1.2.2.2.1 x.2.1 aA x.1.2.2.2.2.1) aih
def abJ (m:M.ay->Option Bool):bC K:=cB 33 ⟨[.el U.bJ],[]⟩ (fun x=>m x.1.1)
def Jr : Cx K:=fG [(73, .iD),(74, .plain),(75, .plain)] [KX M.Bo,afi M.Vo,Iy M.oW] [(5,Xo)]
theorem Xp : aG Jr:=ai aQ _ (aj abC (aj auI (aj Xn aW)))
theorem aii : bG Jr (bD (bI Tryz.f33) 0) Xo:= bn (cx:=Jr) (sh:=⟨[.ptr 0 0, .aZ U.bound, .aZ U.qZ, .int .i64, .int .i64],[.el U.bJ]⟩) (run:=fun n x=>M.wK x.1.2.1 x.1.2.2.1 x.1.2.2.2.1 x.2.1 n x.1.2.2.2.2.1) (di:=alV) aQ Xp aH (ah (by kernel_rfl)) (fun _=>rfl) (fun m x=>by kernel_rfl) (aj ⟨dC,fun _ _ _=>rfl⟩ (aj ⟨bu,fun _ _ _=>rfl⟩ aW)) false aA
theorem as6 : dA (abJ (M.O7)):= fK (cx:=Jr) true Xp Tryz.func33 (aV (aP 1 (by kernel_rfl) (bQ (.mk (by kernel_rfl) aii)))) ⟨⟨[.bool],[]⟩,fun x=>x.1.1⟩ (fun x=>by kernel_rfl)
def NL (m:M.aF->(List UInt8)->Option Bool):bC K:=cB 122 ⟨[.el U.Import, .rp U.str 0],[]⟩ (fun x=>m x.1.1 x.1.2.1)
def Qc : Cx K:=fG [] [] []
theorem adl : aG Qc:=ai aQ _ aW
theorem aij : dA (NL (M.abK)):= fK (cx:=Qc) true adl Tryz.func122 (aV (ah (by kernel_rfl))) ⟨⟨[.bool],[]⟩,fun x=>x.1.1⟩ (fun x=>by kernel_rfl)
def zJ (y:Int⊕Unit) {R:Type} (k:KT R):R:=match y with | .inl a0=>kk k Ex.ret ⟨[.int .i64],[]⟩ ((a0,()),()) | .inr a1=>kk k (Ex.exit 0) ⟨[.any],[]⟩ (((),()),())
def zZ : List (dm K ((Int)⊕Unit)):=[⟨Ex.ret,⟨[.int .i64],[]⟩,fun x=> .inl x.1.1⟩,⟨(Ex.exit 0),⟨[.any],[]⟩,fun x=> .inr (())⟩]
def pG : cZ K:=dn D false 19 0 [0,1,7,8] [4] ⟨[.aZ U.Import, .fn 122 [.rp U.str 0], .int .i64, .int .i64],[]⟩ (fun x=>M.dZ x.1.1 x.1.2.1.1 x.1.2.2.1 aA x.1.2.2.2.1) zJ
def qy (m:(List M.aF)->(List UInt8)->Option Int):bC K:=cI 121 ⟨[.aZ U.Import, .fn 122 [.rp U.str 0]],[]⟩ (fun x=>m x.1.1 x.1.2.1.1)
def iU : Cx K:=fG [(122, .plain)] [NL M.abK] [(2,pG)]
theorem pI : aG iU:=ai aQ _ (aj aij aW)
theorem zK : bG iU (bD (bI Tryz.f121) 0) pG:= bn (cx:=iU) (sh:=⟨[.aZ U.Import, .fn 122 [.rp U.str 0], .int .i64, .int .i64],[]⟩) (run:=fun n x=>M.dZ x.1.1 x.1.2.1.1 x.1.2.2.1 n x.1.2.2.2.1) (di:=zZ) aQ pI aH (ah (by kernel_rfl)) (fun _=>rfl) (fun m x=>by kernel_rfl) (aj ⟨dC,fun _ _ _=>rfl⟩ (aj ⟨bu,fun _ _ _=>rfl⟩ aW)) false aA
theorem CZ : dA (qy (M.jB)):= fK (cx:=iU) true pI Tryz.func121 (aV (aP 1 (by kernel_rfl) (bQ (.mk (by kernel_rfl) zK)))) ⟨⟨[.int .i64],[]⟩,fun x=>x.1.1⟩ (fun x=>by kernel_rfl)
def KY (m:M.aI->(List UInt8)->Option (Int×Bool)):bC K:={f:=76,sh:=⟨[.el U.Module, .str],[]⟩,R:=Int×Bool,run:=fun x=>m x.1.1 x.1.2.1,dflt:=default,out:=fun r=>(Sh.enc D (.nS [.int .i64, .bool]) (r.1,(r.2,())),iY.encs D [] ())}
def abL : Cx K:=fG [(121, .plain),(114, .plain)] [qy M.jB,yj M.mM] []
theorem alW : aG abL:=ai aQ _ (aj CZ (aj E5 aW))
theorem abM : dA (KY (M.Bl)):= fK (cx:=abL) true alW Tryz.func76 (aV (ah (by kernel_rfl))) ⟨⟨[.nS [.int .i64, .bool]],[]⟩,fun x=>(x.1.1.1,x.1.1.2.1)⟩ (fun x=>by kernel_rfl)
def afn (y:Bool⊕Unit) {R:Type} (k:KT R):R:=match y with | .inl a0=>kk k Ex.ret ⟨[.bool],[.dead]⟩ ((a0,()),((),())) | .inr a1=>kk k (Ex.exit 0) ⟨[.any],[.dead]⟩ (((),()),((),()))
def aik : List (dm K ((Bool)⊕Unit)):=[⟨Ex.ret,⟨[.bool],[.dead]⟩,fun x=> .inl x.1.1⟩,⟨(Ex.exit 0),⟨[.any],[.dead]⟩,fun x=> .inr (())⟩]
def Um : cZ K:=dn D false 84 1 [1,3,21,22,23] [2] ⟨[.ptr 0 0, .aZ U.bound, .aZ U.Lower, .int .i64, .int .i64],[.el U.bJ]⟩ (fun x=>M.tN x.1.2.1 x.1.2.2.1 x.1.2.2.2.1 x.2.1 aA x.1.2.2.2.2.1) afn
def Xq (m:M.ay->Option Bool):bC K:=cB 34 ⟨[.el U.bJ],[]⟩ (fun x=>m x.1.1)
def FX : Cx K:=fG [(73, .iD),(76, .plain),(75, .plain)] [KX M.Bo,KY M.Bl,Iy M.oW] [(5,Um)]
theorem Un : aG FX:=ai aQ _ (aj abC (aj abM (aj Xn aW)))
theorem afo : bG FX (bD (bI Tryz.f34) 0) Um:= bn (cx:=FX) (sh:=⟨[.ptr 0 0, .aZ U.bound, .aZ U.Lower, .int .i64, .int .i64],[.el U.bJ]⟩) (run:=fun n x=>M.tN x.1.2.1 x.1.2.2.1 x.1.2.2.2.1 x.2.1 n x.1.2.2.2.2.1) (di:=aik) aQ Un aH (ah (by kernel_rfl)) (fun _=>rfl) (fun m x=>by kernel_rfl) (aj ⟨dC,fun _ _ _=>rfl⟩ (aj ⟨bu,fun _ _ _=>rfl⟩ aW)) false aA
theorem aqK : dA (Xq (M.Ko)):= fK (cx:=FX) true Un Tryz.func34 (aV (aP 1 (by kernel_rfl) (bQ (.mk (by kernel_rfl) afo)))) ⟨⟨[.bool],[]⟩,fun x=>x.1.1⟩ (fun x=>by kernel_rfl)
def adm (y:(Bool×M.aN)⊕((List UInt8)×(List UInt8)×(List UInt8)×(List (List UInt8))×(List M.aT))) {R:Type} (k:KT R):R:=match y with | .inl a0=>kk k Ex.ret ⟨[.ptr 0 0, .bool],[.el U.bV, .dead, .dead]⟩ (((),(a0.1,())),(a0.2,((),((),())))) | .inr a1=>kk k (Ex.exit 0) ⟨[.ptr 0 0, .any],[.box [.str, .str, .str, .own 3, .own 4], .dead, .dead, .arr U.str, .arr U.Func]⟩ (((),((),())),((a1.1,(a1.2.1,(a1.2.2.1,((),((),()))))),((),((),(a1.2.2.2.1,(a1.2.2.2.2,()))))))
def afp : List (dm K ((Bool×M.aN)⊕((List UInt8)×(List UInt8)×(List UInt8)×(List (List UInt8))×(List M.aT)))):=[⟨Ex.ret,⟨[.ptr 0 0, .bool],[.el U.bV, .dead, .dead]⟩,fun x=> .inl (x.1.2.1,x.2.1)⟩,⟨(Ex.exit 0),⟨[.ptr 0 0, .any],[.box [.str, .str, .str, .own 3, .own 4], .dead, .dead, .arr U.str, .arr U.Func]⟩,fun x=> .inr ((x.2.1.1,x.2.1.2.1,x.2.1.2.2.1,x.2.2.2.2.1,x.2.2.2.2.2.1))⟩]
def Qd : cZ K:=dn D false 21 3 [1,4,8,9,10] [4,5] ⟨[.str, .ptr 0 0, .aZ U.bV, .int .i64, .int .i64],[.box [.str, .str, .str, .own 3, .own 4], .dead, .dead, .arr U.str, .arr U.Func]⟩ (fun x=>M.qw x.1.1 x.1.2.2.1 x.1.2.2.2.1 x.2.1.1 x.2.1.2.1 x.2.1.2.2.1 x.2.2.2.2.1 x.2.2.2.2.2.1 aA x.1.2.2.2.2.1) adm
def Uo (m:(List M.aN)->(List UInt8)->Option (M.aN×Bool)):bC K:={f:=123,sh:=⟨[.aZ U.bV, .str],[]⟩,R:=M.aN×Bool,run:=fun x=>m x.1.1 x.1.2.1,dflt:=default,out:=fun r=>(Sh.enc D (.nS [.el U.bV, .bool]) (r.1,(r.2,())),iY.encs D [] ())}
def DT : Cx K:=fG [(70, .plain)] [Dw M.oC] [(2,Qd)]
theorem Qe : aG DT:=ai aQ _ (aj OH aW)
theorem adn : bG DT (bD (bI Tryz.f123) 0) Qd:= bn (cx:=DT) (sh:=⟨[.str, .ptr 0 0, .aZ U.bV, .int .i64, .int .i64],[.box [.str, .str, .str, .own 3, .own 4], .dead, .dead, .arr U.str, .arr U.Func]⟩) (run:=fun n x=>M.qw x.1.1 x.1.2.2.1 x.1.2.2.2.1 x.2.1.1 x.2.1.2.1 x.2.1.2.2.1 x.2.2.2.2.1 x.2.2.2.2.2.1 n x.1.2.2.2.2.1) (di:=afp) aQ Qe aH (ah (by kernel_rfl)) (fun _=>rfl) (fun m x=>by kernel_rfl) (aj ⟨dC,fun _ _ _=>rfl⟩ (aj ⟨bu,fun _ _ _=>rfl⟩ aW)) false aA
theorem anY : dA (Uo (M.Gs)):= fK (cx:=DT) true Qe Tryz.func123 (aV (aP 1 (by kernel_rfl) (bQ (.mk (by kernel_rfl) adn)))) ⟨⟨[.nS [.el U.bV, .bool]],[]⟩,fun x=>(x.1.1.1,x.1.1.2.1)⟩ (fun x=>by kernel_rfl)
def NM (m:(List M.aN)->(List UInt8)->(List UInt8)->Option Bool):bC K:=cB 77 ⟨[.aZ U.bV, .str, .str],[]⟩ (fun x=>m x.1.1 x.1.2.1 x.1.2.2.1)
def Qg : Cx K:=fG [(123, .iD),(108, .plain)] [Uo M.Gs,kE M.eG] []
theorem ado : aG Qg:=ai aQ _ (aj anY (aj rZ aW))
theorem ail : dA (NM (M.xN)):= fK (cx:=Qg) true ado Tryz.func77 (aV (ah (by kernel_rfl))) ⟨⟨[.bool],[]⟩,fun x=>x.1.1⟩ (fun x=>by kernel_rfl)
def aay (y:Bool⊕(M.ay)) {R:Type} (k:KT R):R:=match y with | .inl a0=>kk k Ex.ret ⟨[.any, .bool],[.dead]⟩ (((),(a0,())),((),())) | .inr a1=>kk k (Ex.exit 0) ⟨[.ptr 0 0, .any],[.el U.bJ]⟩ (((),((),())),(a1,()))
def adp : List (dm K ((Bool)⊕(M.ay))):=[⟨Ex.ret,⟨[.any, .bool],[.dead]⟩,fun x=> .inl x.1.2.1⟩,⟨(Ex.exit 0),⟨[.ptr 0 0, .any],[.el U.bJ]⟩,fun x=> .inr (x.2.1)⟩]
def NP : cZ K:=dn D false 79 1 [1,11,12,13] [1,2] ⟨[.ptr 0 0, .aZ U.Builtin, .int .i64, .int .i64],[.el U.bJ]⟩ (fun x=>M.oD x.1.2.1 x.1.2.2.1 x.2.1 aA x.1.2.2.2.1) aay
def Qh (m:M.ay->Option Bool):bC K:=cB 35 ⟨[.el U.bJ],[]⟩ (fun x=>m x.1.1)
def Bd : Cx K:=fG [(77, .plain),(76, .plain),(32, .plain)] [NM M.xN,KY M.Bl,kX M.yH] [(2,NP)]
theorem NQ : aG Bd:=ai aQ _ (aj ail (aj abM (aj oZ aW)))
theorem aaz : bG Bd (bD (bI Tryz.f35) 0) NP:= bn (cx:=Bd) (sh:=⟨[.ptr 0 0, .aZ U.Builtin, .int .i64, .int .i64],[.el U.bJ]⟩) (run:=fun n x=>M.oD x.1.2.1 x.1.2.2.1 x.2.1 n x.1.2.2.2.1) (di:=adp) aQ NQ aH (ah (by kernel_rfl)) (fun _=>rfl) (fun m x=>by kernel_rfl) (aj ⟨dC,fun _ _ _=>rfl⟩ (aj ⟨bu,fun _ _ _=>rfl⟩ aW)) false aA
theorem alX : dA (Qh (M.Dj)):= fK (cx:=Bd) true NQ Tryz.func35 (aV (aP 1 (by kernel_rfl) (bQ (.mk (by kernel_rfl) aaz)))) ⟨⟨[.bool],[]⟩,fun x=>x.1.1⟩ (fun x=>by kernel_rfl)
def U8 (y:M.ay×(List (List UInt8))) {R:Type} (k:KT R):R:=match y with |a0=>kk k (Ex.exit 0) ⟨[.ptr 0 0, .own 2],[.el U.bJ, .dead, .arr U.str]⟩ (((),((),())),(a0.1,((),(a0.2,()))))
def Xr : List (dm K (M.ay×(List (List UInt8)))):=[⟨(Ex.exit 0),⟨[.ptr 0 0, .own 2],[.el U.bJ, .dead, .arr U.str]⟩,fun x=>(x.2.1,x.2.2.2.1)⟩]
def IM : cZ K:=dn D false 46 2 [1,3,10,11,12] [1,3] ⟨[.ptr 0 0, .own 2, .aZ U.Lower, .int .i64, .int .i64],[.el U.bJ, .dead, .arr U.str]⟩ (fun x=>M.kV x.1.2.2.1 x.1.2.2.2.1 x.2.1 aA x.1.2.2.2.2.1 x.2.2.2.1) U8
def U9 (y:M.ay×(List (List UInt8))) {R:Type} (k:KT R):R:=match y with |a0=>kk k (Ex.exit 2) ⟨[.ptr 0 0, .own 2],[.el U.bJ, .dead, .arr U.str]⟩ (((),((),())),(a0.1,((),(a0.2,()))))
def Xt : List (dm K (M.ay×(List (List UInt8)))):=[⟨(Ex.exit 2),⟨[.ptr 0 0, .own 2],[.el U.bJ, .dead, .arr U.str]⟩,fun x=>(x.2.1,x.2.2.2.1)⟩]
def IP : cZ K:=dn D false 46 2 [1,3,23,24,25] [1,3] ⟨[.ptr 0 0, .own 2, .aZ U.Builtin, .int .i64, .int .i64],[.el U.bJ, .dead, .arr U.str]⟩ (fun x=>M.kW x.1.2.2.1 x.1.2.2.2.1 x.2.1 aA x.1.2.2.2.2.1 x.2.2.2.1) U9
def KZ (m:M.ay->Option Bool):bC K:=cB 36 ⟨[.el U.bJ],[]⟩ (fun x=>m x.1.1)
def oq : Cx K:=fG [(78, .plain)] [uT M.kY] [(3,IM),(8,IP)]
theorem Aa : aG oq:=ai aQ _ (aj FO aW)
theorem Va : bG oq (bD (bI Tryz.f36) 0) IM:= bn (cx:=oq) (sh:=⟨[.ptr 0 0, .own 2, .aZ U.Lower, .int .i64, .int .i64],[.el U.bJ, .dead, .arr U.str]⟩) (run:=fun n x=>M.kV x.1.2.2.1 x.1.2.2.2.1 x.2.1 n x.1.2.2.2.2.1 x.2.2.2.1) (di:=Xr) aQ Aa aH (ah (by kernel_rfl)) (fun _=>rfl) (fun m x=>by kernel_rfl) (aj ⟨bu,fun _ _ _=>rfl⟩ aW) false aA
theorem Vb : bG oq (bD (bI Tryz.f36) 1) IP:= bn (cx:=oq) (sh:=⟨[.ptr 0 0, .own 2, .aZ U.Builtin, .int .i64, .int .i64],[.el U.bJ, .dead, .arr U.str]⟩) (run:=fun n x=>M.kW x.1.2.2.1 x.1.2.2.2.1 x.2.1 n x.1.2.2.2.2.1 x.2.2.2.1) (di:=Xt) aQ Aa aH (ah (by kernel_rfl)) (fun _=>rfl) (fun m x=>by kernel_rfl) (aj ⟨bu,fun _ _ _=>rfl⟩ aW) false aA
theorem afq : dA (KZ (M.yG)):= fK (cx:=oq) true Aa Tryz.func36 (aV (aP 2 (by kernel_rfl) (lt_succ (bQ (.mk (by kernel_rfl) Va)) (.mk (by kernel_rfl) Vb)))) ⟨⟨[.bool],[]⟩,fun x=>x.1.1⟩ (fun x=>by kernel_rfl)
def GZ (m:M.ay->Option ((List UInt8))):bC K:=cS 9 ⟨[.el U.bJ],[]⟩ (fun x=>m x.1.1)
def IQ : Cx K:=fG [(27, .plain),(28, .plain),(29, .plain),(30, .plain),(31, .plain),(32, .plain),(33, .plain),(34, .plain),(35, .plain),(36, .plain)] [wP M.ng,Ik M.yI,aaZ M.JU,PV M.ae6,Xh M.KW,kX M.yH,abJ M.O7,Xq M.Ko,Qh M.Dj,KZ M.yG] []
theorem Vd : aG IQ:=ai aQ _ (aj BU (aj Vx (aj asG (aj alJ (aj aqH (aj oZ (aj as6 (aj aqK (aj alX (aj afq aW))))))))))
theorem aaA : dA (GZ (M.qj)):= fK (cx:=IQ) true Vd Tryz.func9 (aV (ah (by kernel_rfl))) ⟨⟨[.str],[]⟩,fun x=>x.1.1⟩ (fun x=>by kernel_rfl)
def alc (m:M.ay->Option Bool):bC K:=cB 12 ⟨[.el U.bJ],[]⟩ (fun x=>m x.1.1)
def amQ : Cx K:=fG [(9, .plain)] [GZ M.qj] []
theorem ap8 : aG amQ:=ai aQ _ (aj aaA aW)
theorem auh : dA (alc (M.acB)):= fK (cx:=amQ) true ap8 Tryz.func12 (aV (ah (by kernel_rfl))) ⟨⟨[.bool],[]⟩,fun x=>x.1.1⟩ (fun x=>by kernel_rfl)
def aAf (y:(Bool×M.aK)⊕(M.aK)) {R:Type} (k:KT R):R:=match y with | .inl a0=>kk k Ex.ret ⟨[.ptr 0 0, .bool],[.el U.Builtin]⟩ (((),(a0.1,())),(a0.2,())) | .inr a1=>kk k (Ex.exit 0) ⟨[.ptr 0 0, .any],[.el U.Builtin]⟩ (((),((),())),(a1,()))
def aBC : List (dm K ((Bool×M.aK)⊕(M.aK))):=[⟨Ex.ret,⟨[.ptr 0 0, .bool],[.el U.Builtin]⟩,fun x=> .inl (x.1.2.1,x.2.1)⟩,⟨(Ex.exit 0),⟨[.ptr 0 0, .any],[.el U.Builtin]⟩,fun x=> .inr (x.2.1)⟩]
def awr : cZ K:=dn D false 22 1 [1,4,9,10,11] [4,5] ⟨[.str, .ptr 0 0, .aZ U.Builtin, .int .i64, .int .i64],[.el U.Builtin]⟩ (fun x=>M.Y1 x.1.1 x.1.2.2.1 x.1.2.2.2.1 x.2.1 aA x.1.2.2.2.2.1) aAf
def axO (m:M.ay->(List UInt8)->Option (M.aK×Bool)):bC K:={f:=43,sh:=⟨[.el U.bJ, .str],[]⟩,R:=M.aK×Bool,run:=fun x=>m x.1.1 x.1.2.1,dflt:=default,out:=fun r=>(Sh.enc D (.nS [.el U.Builtin, .bool]) (r.1,(r.2,())),iY.encs D [] ())}
def aoU : Cx K:=fG [] [] [(2,awr)]
theorem awt : aG aoU:=ai aQ _ aW
theorem aAw : bG aoU (bD (bI Tryz.f43) 0) awr:= bn (cx:=aoU) (sh:=⟨[.str, .ptr 0 0, .aZ U.Builtin, .int .i64, .int .i64],[.el U.Builtin]⟩) (run:=fun n x=>M.Y1 x.1.1 x.1.2.2.1 x.1.2.2.2.1 x.2.1 n x.1.2.2.2.2.1) (di:=aBC) aQ awt aH (ah (by kernel_rfl)) (fun _=>rfl) (fun m x=>by kernel_rfl) (aj ⟨dC,fun _ _ _=>rfl⟩ (aj ⟨bu,fun _ _ _=>rfl⟩ aW)) false aA
theorem aC0 : dA (axO (M.avf)):= fK (cx:=aoU) true awt Tryz.func43 (aV (aP 1 (by kernel_rfl) (bQ (.mk (by kernel_rfl) aAw)))) ⟨⟨[.nS [.el U.Builtin, .bool]],[]⟩,fun x=>(x.1.1.1,x.1.1.2.1)⟩ (fun x=>by kernel_rfl)
def ax4 (m:M.ay->(List UInt8)->Option (M.aK×Bool)):bC K:={f:=14,sh:=⟨[.el U.bJ, .str],[]⟩,R:=M.aK×Bool,run:=fun x=>m x.1.1 x.1.2.1,dflt:=default,out:=fun r=>(Sh.enc D (.nS [.el U.Builtin, .bool]) (r.1,(r.2,())),iY.encs D [] ())}
def ay7 : Cx K:=fG [(12, .plain),(43, .plain)] [alc M.acB,axO M.avf] []
theorem aCf : aG ay7:=ai aQ _ (aj auh (aj aC0 aW))
theorem aC1 : dA (ax4 (M.avg)):= fK (cx:=ay7) true aCf Tryz.func14 (aV (ah (by kernel_rfl))) ⟨⟨[.nS [.el U.Builtin, .bool]],[]⟩,fun x=>(x.1.1.1,x.1.1.2.1)⟩ (fun x=>by kernel_rfl)
def apB (m:M.ay->(List UInt8)->Option Bool):bC K:=cB 5 ⟨[.el U.bJ, .str],[]⟩ (fun x=>m x.1.1 x.1.2.1)
def ary : Cx K:={cx0 with mode:=uX .plain [(6, .plain),(8, .fresh),(13, .plain),(14, .plain),(15, .plain),(10, .plain)],deep:=fun c=>fB (D.cells c (K.zero c)),call:=callOf D [MW M.tY,Nb M.tZ,aw4 M.avd,ax4 M.avg,Ug M.BX,NC M.ui],loop:=ry []}
theorem awZ : aG ary:=ai aQ _ (aj ahD (aj ahI (aj aCN (aj aC1 (aj anP (aj ah8 aW))))))
theorem ayj : dA (apB (M.awT)):= fK (cx:=ary) true awZ Tryz.func5 (aV (ah (by kernel_rfl))) ⟨⟨[.bool],[]⟩,fun x=>x.1.1⟩ (fun x=>by kernel_rfl)
