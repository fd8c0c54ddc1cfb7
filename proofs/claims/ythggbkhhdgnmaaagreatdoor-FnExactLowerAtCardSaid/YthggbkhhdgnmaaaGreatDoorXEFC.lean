/-
  Part of the proof of the claim.
-/
import Derived.Test.YthggbkhhdgnmaaaGreatDoorXEFCa
import Derived.Test.YthggbkhhdgnmaaaGreatDoorXEFM
import Derived.Test.YthggbkhhdgnmaaaGreatDoorXEHdA
import Derived.Test.YthggbkhhdgnmaaaGreatDoorXEHdB
import Derived.Test.YthggbkhhdgnmaaaGreatDoorXEHdV
import Derived.Test.YthggbkhhdgnmaaaGreatDoorProg
set_option linter.unusedVariables false
set_option maxRecDepth 100000
open Go Go.Proofs
open Go.V
noncomputable section
theorem amu:aj (SB (M.Au)):=aL (cx:=xB) true LN Tryz.func125 (aH (bH 2 (by kernel_rfl) (lt_succ (bI (.mk (by kernel_rfl) amv)) (.mk (by kernel_rfl) amw)))) ⟨zs0,fun x=>x.1.1⟩ (fun x=>by kernel_rfl)
def Av(m:M.ar->Option ((List UInt8))):az K:=cS 126 Aw (fun x=>m x.1.1)
theorem FD:aj (Av (M.jr)):=aL (cx:=dU) true dZ Tryz.func126 (aH (aE (by kernel_rfl))) ⟨ib,fun x=>x.1.1⟩ (fun x=>by kernel_rfl)
def SC:bo K:=bA D false 25 1 [1,3] [2] FG (fun x=>M.om ae x.1.2.1 x.2.1) rx
def SD(m:M.av->Option Bool):az K:=cB 127 lC (fun x=>m x.1.1)
def FH:Cx K:=aT [(157,.plain)] [oo M.jC] [(4,SC)]
theorem SE:aK FH:=aO ak _ (af LP an)
theorem amx:bp FH (bm (bw Tryz.f127) 0) SC:=bB (cx:=FH) (sh:=FG) (run:=fun n x=>M.om n x.1.2.1 x.2.1) (bq:=ry) ak SE aW (aE (by kernel_rfl)) (fun _=>rfl) (fun m x=>by kernel_rfl) (af ⟨cm,fun _ _ _=>rfl⟩ (af ⟨bC,fun _ _ _=>rfl⟩ an)) false ae
theorem amy:aj (SD (M.Ax)):=aL (cx:=FH) true SE Tryz.func127 (aH (bH 1 (by kernel_rfl) (bI (.mk (by kernel_rfl) amx)))) ⟨zs0,fun x=>x.1.1⟩ (fun x=>by kernel_rfl)
def amz(y:Bool⊕((List M.ar)×Int)){R:Type}(k:KT R):R:=match y with|.inl a0=>kk k Ex.ret xC (((),((),(a0,()))),())|.inr a1=>kk k (Ex.exit 2) ⟨[.ah U.aQ,.int .i64,.any],[]⟩ ((a1.1,(a1.2,((),()))),())
def amA:List (cF K ((Bool)⊕((List M.ar)×Int))):=[⟨Ex.ret,xC,fun x=>.inl x.1.2.2.1⟩,⟨(Ex.exit 2),⟨[.ah U.aQ,.int .i64,.any],[]⟩,fun x=>.inr ((x.1.1,x.1.2.1))⟩]
def SG:bo K:=bA D false 59 0 [0,3,4] [0,3,2] FI (fun x=>M.rz x.1.1 x.1.2.1 ae x.1.2.2.1) amz
def SH:bo K:=bA D false 59 0 [0,3] [2] LQ (fun x=>M.oq ae x.1.1 x.1.2.1) iU
def SI(m:(List M.ar)->Option Bool):az K:=cB 91 FK (fun x=>m x.1.1)
def xE:Cx K:=aT [(125,.plain),(126,.plain),(127,.plain)] [SB M.Au,Av M.jr,SD M.Ax] [(9,SG),(4,SH)]
theorem LR:aK xE:=aO ak _ (af amu (af FD (af amy an)))
theorem amB:bp xE (bm (bm (bw Tryz.f91) 0) 0) SG:=bB (cx:=xE) (sh:=FI) (run:=fun n x=>M.rz x.1.1 x.1.2.1 n x.1.2.2.1) (bq:=amA) ak LR aW (aE (by kernel_rfl)) (fun _=>rfl) (fun m x=>by kernel_rfl) (af ⟨cm,fun _ _ _=>rfl⟩ (af ⟨bC,fun _ _ _=>rfl⟩ an)) false ae
theorem amC:bp xE (bm (bw Tryz.f91) 0) SH:=bB (cx:=xE) (sh:=LQ) (run:=fun n x=>M.oq n x.1.1 x.1.2.1) (bq:=iV) ak LR aW (bH 1 (by kernel_rfl) (bI (.mk (by kernel_rfl) amB))) (fun _=>rfl) (fun m x=>by kernel_rfl) (af ⟨cm,fun _ _ _=>rfl⟩ (af ⟨bC,fun _ _ _=>rfl⟩ an)) false ae
theorem amD:aj (SI (M.xF)):=aL (cx:=xE) true LR Tryz.func91 (aH (bH 1 (by kernel_rfl) (bI (.mk (by kernel_rfl) amC)))) ⟨zs0,fun x=>x.1.1⟩ (fun x=>by kernel_rfl)
def amE(y:(Int×Bool)⊕Int){R:Type}(k:KT R):R:=match y with|.inl a0=>kk k Ex.ret ⟨[.any,.int .i64,.bool],[]⟩ (((),(a0.1,(a0.2,()))),())|.inr a1=>kk k (Ex.exit 0) ⟨[.int .i64,.any,.any],[]⟩ ((a1,((),((),()))),())
def amF:List (cF K ((Int×Bool)⊕Int)):=[⟨Ex.ret,⟨[.any,.int .i64,.bool],[]⟩,fun x=>.inl (x.1.2.1,x.1.2.2.1)⟩,⟨(Ex.exit 0),⟨[.int .i64,.any,.any],[]⟩,fun x=>.inr (x.1.1)⟩]
def SJ:bo K:=bA D false 39 0 [5,15,16,17] [5,2,3] SK (fun x=>M.pQ x.1.2.1 x.1.2.2.1 ae x.1.1 x.1.2.2.2.1) amE
def SL(m:(List UInt8)->Option (Int×Bool)):az K:={f:=135,sh:=ib,R:=Int×Bool,run:=fun x=>m x.1.1,dflt:=default,out:=fun r=>(Sh.enc D (.bT [.int .i64,.bool]) (r.1,(r.2,())),aU.encs D [] ())}
def FM:Cx K:=aT [(164,.ez),(165,.plain),(109,.plain)] [LS M.strings_Split,LU M.pR,mU M.mV] [(6,SJ)]
theorem SN:aK FM:=aO ak _ (af amG (af amH (af ot an)))
theorem amI:bp FM (bm (bw Tryz.f135) 0) SJ:=bB (cx:=FM) (sh:=SK) (run:=fun n x=>M.pQ x.1.2.1 x.1.2.2.1 n x.1.1 x.1.2.2.2.1) (bq:=amF) ak SN aW (aE (by kernel_rfl)) (fun _=>rfl) (fun m x=>by kernel_rfl) (af ⟨cm,fun _ _ _=>rfl⟩ (af ⟨bC,fun _ _ _=>rfl⟩ an)) false ae
theorem amJ:aj (SL (M.Az)):=aL (cx:=FM) true SN Tryz.func135 (aH (bH 1 (by kernel_rfl) (bI (.mk (by kernel_rfl) amI)))) ⟨AA,fun x=>(x.1.1.1,x.1.1.2.1)⟩ (fun x=>by kernel_rfl)
def LV(m:(List UInt8)->Option Bool):az K:=cB 105 ib (fun x=>m x.1.1)
def SO:Cx K:=aT [(135,.plain)] [SL M.Az] []
theorem amK:aK SO:=aO ak _ (af amJ an)
theorem SQ:aj (LV (M.uE)):=aL (cx:=SO) true amK Tryz.func105 (aH (aE (by kernel_rfl))) ⟨zs0,fun x=>x.1.1⟩ (fun x=>by kernel_rfl)
def SR:bo K:=bA D false 20 0 [0,3] [2] xG (fun x=>M.rA x.1.1 ae x.1.2.1) iU
def LW(m:(List (List UInt8))->Option Bool):az K:=cB 141 pS (fun x=>m x.1.1)
def FN:Cx K:=aT [] [] [(2,SR)]
theorem SS:aK FN:=aO ak _ an
theorem amL:bp FN (bm (bw Tryz.f141) 0) SR:=bB (cx:=FN) (sh:=xG) (run:=fun n x=>M.rA x.1.1 n x.1.2.1) (bq:=iV) ak SS aW (aE (by kernel_rfl)) (fun _=>rfl) (fun m x=>by kernel_rfl) (af ⟨cm,fun _ _ _=>rfl⟩ (af ⟨bC,fun _ _ _=>rfl⟩ an)) false ae
theorem SU:aj (LW (M.rB)):=aL (cx:=FN) true SS Tryz.func141 (aH (bH 1 (by kernel_rfl) (bI (.mk (by kernel_rfl) amL)))) ⟨zs0,fun x=>x.1.1⟩ (fun x=>by kernel_rfl)
def SV(m:(List UInt8)->Option Bool):az K:=cB 167 ib (fun x=>m x.1.1)
theorem amM:aj (SV (M.AB)):=aL (cx:=LX) true SX Tryz.func167 (aH (aE (by kernel_rfl))) ⟨zs0,fun x=>x.1.1⟩ (fun x=>by kernel_rfl)
def SY:bo K:=bA D false 19 0 [0,1,7,8] [4] SZ (fun x=>M.uF x.1.1 x.1.2.2.1 ae x.1.2.2.2.1) iJ
def S3(m:(List (List UInt8))->Option Int):az K:=cI 203 ⟨[.ah U.str,.fn 167 []],[]⟩ (fun x=>m x.1.1)
def FO:Cx K:=aT [(167,.plain)] [SV M.AB] [(2,SY)]
theorem S4:aK FO:=aO ak _ (af amM an)
theorem amN:bp FO (bm (bw Tryz.f203) 0) SY:=bB (cx:=FO) (sh:=SZ) (run:=fun n x=>M.uF x.1.1 x.1.2.2.1 n x.1.2.2.2.1) (bq:=iK) ak S4 aW (aE (by kernel_rfl)) (fun _=>rfl) (fun m x=>by kernel_rfl) (af ⟨cm,fun _ _ _=>rfl⟩ (af ⟨bC,fun _ _ _=>rfl⟩ an)) false ae
theorem amO:aj (S3 (M.FP)):=aL (cx:=FO) true S4 Tryz.func203 (aH (bH 1 (by kernel_rfl) (bI (.mk (by kernel_rfl) amN)))) ⟨zs1,fun x=>x.1.1⟩ (fun x=>by kernel_rfl)
def S5(m:(List (List UInt8))->Option Bool):az K:=cB 166 ⟨[.ah U.str,.fn 167 []],[]⟩ (fun x=>m x.1.1)
def S7:Cx K:=aT [(203,.plain)] [S3 M.FP] []
theorem amP:aK S7:=aO ak _ (af amO an)
theorem amQ:aj (S5 (M.AD)):=aL (cx:=S7) true amP Tryz.func166 (aH (aE (by kernel_rfl))) ⟨zs0,fun x=>x.1.1⟩ (fun x=>by kernel_rfl)
def LY(m:M.aa->Option Bool):az K:=cB 205 iv (fun x=>m x.1.1)
def S8:Cx K:=aT [(243,.plain),(244,.plain),(245,.plain)] [rC M.FQ,rD M.FR,kL M.FT] []
theorem amR:aK S8:=aO ak _ (af amS (af amT (af amU an)))
theorem S9:aj (LY (M.uG)):=aL (cx:=S8) true amR Tryz.func205 (aH (aE (by kernel_rfl))) ⟨zs0,fun x=>x.1.1⟩ (fun x=>by kernel_rfl)
def amV(y:Bool⊕((List M.al)×(List (List UInt8)))){R:Type}(k:KT R):R:=match y with|.inl a0=>kk k Ex.ret xH (((),((),(a0,()))),((),((),())))|.inr a1=>kk k (Ex.exit 0) Ta ((a1.1,((),((),()))),((),(a1.2,())))
def amW:List (cF K ((Bool)⊕((List M.al)×(List (List UInt8))))):=[⟨Ex.ret,xH,fun x=>.inl x.1.2.2.1⟩,⟨(Ex.exit 0),Ta,fun x=>.inr ((x.1.1,x.2.2.1))⟩]
def Tc:bo K:=bA D false 41 1 [0,3,7,8,9] [0,3,2] Td (fun x=>M.rE x.1.1 x.1.2.2.1 x.1.2.2.2.1 ae x.1.2.2.2.2.1 x.2.2.1) amV
def Tf(m:(List M.al)->Option Bool):az K:=cB 204 ⟨[.ah U.Param],[]⟩ (fun x=>m x.1.1)
def FU:Cx K:=aT [(104,.plain),(205,.plain),(182,.plain),(148,.plain)] [xI M.jD,LY M.uG,FV M.FW,xJ M.kM] [(3,Tc)]
theorem Ti:aK FU:=aO ak _ (af AE (af S9 (af LZ (af FX an))))
theorem amX:bp FU (bm (bw Tryz.f204) 0) Tc:=bB (cx:=FU) (sh:=Td) (run:=fun n x=>M.rE x.1.1 x.1.2.2.1 x.1.2.2.2.1 n x.1.2.2.2.2.1 x.2.2.1) (bq:=amW) ak Ti aW (aE (by kernel_rfl)) (fun _=>rfl) (fun m x=>by kernel_rfl) (af ⟨cm,fun _ _ _=>rfl⟩ (af ⟨bC,fun _ _ _=>rfl⟩ an)) false ae
theorem amY:aj (Tf (M.AG)):=aL (cx:=FU) true Ti Tryz.func204 (aH (bH 1 (by kernel_rfl) (bI (.mk (by kernel_rfl) amX)))) ⟨zs0,fun x=>x.1.1⟩ (fun x=>by kernel_rfl)
def Tj(m:M.av->Option Bool):az K:=cB 168 lC (fun x=>m x.1.1)
def Tm:Cx K:=aT [(204,.plain),(205,.plain),(175,.plain)] [Tf M.AG,LY M.uG,jE M.j0] []
theorem amZ:aK Tm:=aO ak _ (af amY (af S9 (af L0 an)))
theorem am0:aj (Tj (M.AH)):=aL (cx:=Tm) true amZ Tryz.func168 (aH (aE (by kernel_rfl))) ⟨zs0,fun x=>x.1.1⟩ (fun x=>by kernel_rfl)
def rF(m:M.aa->Option ((List (List UInt8)))):az K:={f:=206,sh:=iv,R:=(List (List UInt8)),run:=fun x=>m x.1.1,dflt:=default,out:=fun r=>(Sh.enc D (.own 0) (),aU.encs D [.arr U.str] (r,()))}
def L1(y:(List (List UInt8))){R:Type}(k:KT R):R:=match y with|a0=>kk k (Ex.exit 0) Tn (((),()),((),(a0,())))
def L2:List (cF K ((List (List UInt8)))):=[⟨(Ex.exit 0),Tn,fun x=>x.2.2.1⟩]
def To(fE:M.aa->Option ((List (List UInt8)))):bo K:=bA D false 33 1 [3,21,22,23] [3] Tq (fun x=>M.pU fE x.1.2.1 x.1.2.2.1 ae x.1.2.2.2.1 x.2.2.1) L1
def FY(fE:M.aa->Option ((List (List UInt8)))):Cx K:={dc with mode:=cV .plain [(206,.fresh)],eJ:=[[some U.str]],call:=callOf D [rF fE],loop:=cP [(5,To fE)]}
theorem Tt(fE:M.aa->Option ((List (List UInt8))))(xK:aj (rF fE)):aK (FY fE):=aO ak _ (af xK an)
theorem am1(fE:M.aa->Option ((List (List UInt8))))(xK:aj (rF fE)):bp (FY fE) (bm (bw Tryz.f206) 0) (To fE):=bB (cx:=FY fE) (sh:=Tq) (run:=fun n x=>M.pU fE x.1.2.1 x.1.2.2.1 n x.1.2.2.2.1 x.2.2.1) (bq:=L2) ak (Tt fE xK) aW (aE (by kernel_rfl)) (fun _=>rfl) (fun m x=>by kernel_rfl) (af ⟨bC,fun _ _ _=>rfl⟩ an) false ae
theorem am2(fE:M.aa->Option ((List (List UInt8))))(xK:aj (rF fE)):aj (rF (M.FZ fE)):=fb (cx:=FY fE) (fz:=false) ak (Tt fE xK) aW ⟨Tryz.func206,by kernel_rfl⟩ (aH (bH 1 (by kernel_rfl) (bI (.mk (by kernel_rfl) (am1 fE xK))))) ⟨⟨[.own 0],[.arr U.str]⟩,fun x=>x.2.1⟩ (fun x=>rfl) (fun x=>by kernel_rfl)
theorem Tu:∀n,aj (rF (M.pV n))|0=>ic fun _=>rfl|n+1=>am2 (M.pV n) (Tu n)
theorem am3:aj (rF (M.xM)):=Tu ae
def Tv:bo K:=bA D false 23 1 [3,10,11,12] [3] Tz (fun x=>M.uH x.1.2.1 x.1.2.2.1 ae x.1.2.2.2.1 x.2.2.1) L1
def TA(m:M.av->Option ((List (List UInt8)))):az K:={f:=169,sh:=lC,R:=(List (List UInt8)),run:=fun x=>m x.1.1,dflt:=default,out:=fun r=>(Sh.enc D (.ah U.str) r,aU.encs D [] ())}
def F3:Cx K:=aT [(206,.fresh)] [rF M.xM] [(3,Tv)]
theorem TB:aK F3:=aO ak _ (af am3 an)
theorem am4:bp F3 (bm (bw Tryz.f169) 0) Tv:=bB (cx:=F3) (sh:=Tz) (run:=fun n x=>M.uH x.1.2.1 x.1.2.2.1 n x.1.2.2.2.1 x.2.2.1) (bq:=L2) ak TB aW (aE (by kernel_rfl)) (fun _=>rfl) (fun m x=>by kernel_rfl) (af ⟨bC,fun _ _ _=>rfl⟩ an) false ae
theorem am5:aj (TA (M.AI)):=aL (cx:=F3) true TB Tryz.func169 (aH (bH 1 (by kernel_rfl) (bI (.mk (by kernel_rfl) am4)))) ⟨pS,fun x=>x.1.1⟩ (fun x=>by kernel_rfl)
def TC:bo K:=bA D false 19 0 [0,1,7,8] [4] TD (fun x=>M.uI x.1.1 x.1.2.1 x.1.2.2.1 ae x.1.2.2.2.1) iJ
def TE(m:(List (List UInt8))->(List UInt8)->Option Int):az K:=cI 207 L6 (fun x=>m x.1.1 x.1.2.1)
def F4:Cx K:=aT [] [] [(2,TC)]
theorem TF:aK F4:=aO ak _ an
theorem am6:bp F4 (bm (bw Tryz.f207) 0) TC:=bB (cx:=F4) (sh:=TD) (run:=fun n x=>M.uI x.1.1 x.1.2.1 x.1.2.2.1 n x.1.2.2.2.1) (bq:=iK) ak TF aW (aE (by kernel_rfl)) (fun _=>rfl) (fun m x=>by kernel_rfl) (af ⟨cm,fun _ _ _=>rfl⟩ (af ⟨bC,fun _ _ _=>rfl⟩ an)) false ae
theorem am7:aj (TE (M.F5)):=aL (cx:=F4) true TF Tryz.func207 (aH (bH 1 (by kernel_rfl) (bI (.mk (by kernel_rfl) am6)))) ⟨zs1,fun x=>x.1.1⟩ (fun x=>by kernel_rfl)
def L8(m:(List (List UInt8))->(List UInt8)->Option Bool):az K:=cB 171 L6 (fun x=>m x.1.1 x.1.2.1)
def TG:Cx K:=aT [(207,.plain)] [TE M.F5] []
theorem am8:aK TG:=aO ak _ (af am7 an)
theorem TI:aj (L8 (M.rk)):=aL (cx:=TG) true am8 Tryz.func171 (aH (aE (by kernel_rfl))) ⟨zs0,fun x=>x.1.1⟩ (fun x=>by kernel_rfl)
def TJ(m:(List UInt8)->M.ar->Option Bool):az K:=cB 170 ⟨[.str,.rp U.aQ 0],[]⟩ (fun x=>m x.1.1 x.1.2.1)
def TK:Cx K:=aT [(171,.plain)] [L8 M.rk] []
theorem am9:aK TK:=aO ak _ (af TI an)
theorem ana:aj (TJ (M.AK)):=aL (cx:=TK) true am9 Tryz.func170 (aH (aE (by kernel_rfl))) ⟨zs0,fun x=>x.1.1⟩ (fun x=>by kernel_rfl)
def TL:bo K:=bA D false 19 0 [0,1,7,8] [4] TM (fun x=>M.uJ x.1.1 x.1.2.1.1 x.1.2.2.1 ae x.1.2.2.2.1) iJ
def TN(m:(List (List UInt8))->M.ar->Option Int):az K:=cI 203 TP (fun x=>m x.1.1 x.1.2.1.1)
def F6:Cx K:=aT [(170,.plain)] [TJ M.AK] [(2,TL)]
theorem TQ:aK F6:=aO ak _ (af ana an)
theorem anb:bp F6 (bm (bw Tryz.f203) 0) TL:=bB (cx:=F6) (sh:=TM) (run:=fun n x=>M.uJ x.1.1 x.1.2.1.1 x.1.2.2.1 n x.1.2.2.2.1) (bq:=iK) ak TQ aW (aE (by kernel_rfl)) (fun _=>rfl) (fun m x=>by kernel_rfl) (af ⟨cm,fun _ _ _=>rfl⟩ (af ⟨bC,fun _ _ _=>rfl⟩ an)) false ae
theorem anc:aj (TN (M.F7)):=aL (cx:=F6) true TQ Tryz.func203 (aH (bH 1 (by kernel_rfl) (bI (.mk (by kernel_rfl) anb)))) ⟨zs1,fun x=>x.1.1⟩ (fun x=>by kernel_rfl)
def TR(m:(List (List UInt8))->M.ar->Option Bool):az K:=cB 166 TP (fun x=>m x.1.1 x.1.2.1.1)
def TS:Cx K:=aT [(203,.plain)] [TN M.F7] []
theorem ane:aK TS:=aO ak _ (af anc an)
theorem anf:aj (TR (M.AL)):=aL (cx:=TS) true ane Tryz.func166 (aH (aE (by kernel_rfl))) ⟨zs0,fun x=>x.1.1⟩ (fun x=>by kernel_rfl)
def ang(y:Bool⊕((List (List UInt8)))){R:Type}(k:KT R):R:=match y with|.inl a0=>kk k Ex.ret ⟨[.any,.bool],[.dead,.dead,.dead]⟩ (((),(a0,())),((),((),((),()))))|.inr a1=>kk k (Ex.exit 0) TU (((),((),())),((),((),(a1,()))))
def anh:List (cF K ((Bool)⊕((List (List UInt8))))):=[⟨Ex.ret,⟨[.any,.bool],[.dead,.dead,.dead]⟩,fun x=>.inl x.1.2.1⟩,⟨(Ex.exit 0),TU,fun x=>.inr (x.2.2.2.1)⟩]
def TV:bo K:=bA D false 74 2 [1,3,45,46,47] [3,2] TW (fun x=>M.rG x.1.2.2.1 x.1.2.2.2.1 x.2.1 ae x.1.2.2.2.2.1 x.2.2.2.1) ang
def TX(m:M.ar->Option Bool):az K:=cB 136 Aw (fun x=>m x.1.1)
def F8:Cx K:=aT [(104,.plain),(105,.plain),(141,.plain),(166,.plain),(168,.plain),(169,.ez)] [xI M.jD,LV M.uE,LW M.rB,S5 M.AD,Tj M.AH,TA M.AI,TR M.AL] [(7,TV)]
theorem TY:aK F8:=aO ak _ (af AE (af SQ (af SU (af amQ (af am0 (af am5 (af anf an)))))))
theorem ani:bp F8 (bm (bw Tryz.f136) 0) TV:=bB (cx:=F8) (sh:=TW) (run:=fun n x=>M.rG x.1.2.2.1 x.1.2.2.2.1 x.2.1 n x.1.2.2.2.2.1 x.2.2.2.1) (bq:=anh) ak TY aW (aE (by kernel_rfl)) (fun _=>rfl) (fun m x=>by kernel_rfl) (af ⟨cm,fun _ _ _=>rfl⟩ (af ⟨bC,fun _ _ _=>rfl⟩ an)) false ae
theorem anj:aj (TX (M.AM)):=aL (cx:=F8) true TY Tryz.func136 (aH (bH 1 (by kernel_rfl) (bI (.mk (by kernel_rfl) ani)))) ⟨zs0,fun x=>x.1.1⟩ (fun x=>by kernel_rfl)
def ank(y:(List M.aa)){R:Type}(k:KT R):R:=match y with|a0=>kk k (Ex.exit 0) ⟨[.own 1],[.dead,.arr U.Type]⟩ (((),()),((),(a0,())))
def anl:List (cF K ((List M.aa))):=[⟨(Ex.exit 0),⟨[.own 1],[.dead,.arr U.Type]⟩,fun x=>x.2.2.1⟩]
def TZ:bo K:=bA D false 21 1 [3,8,9,10] [3] T0 (fun x=>M.mW x.1.2.1 x.1.2.2.1 ae x.1.2.2.2.1 x.2.2.1) ank
def L9(m:M.av->Option ((List M.aa))):az K:={f:=173,sh:=lC,R:=(List M.aa),run:=fun x=>m x.1.1,dflt:=default,out:=fun r=>(Sh.enc D (.own 0) (),aU.encs D [.arr U.Type] (r,()))}
def F9:Cx K:={dc with mode:=cV .plain [],eJ:=[[some U.Type]],call:=callOf D [],loop:=cP [(3,TZ)]}
theorem T8:aK F9:=aO ak _ an
theorem anm:bp F9 (bm (bw Tryz.f173) 0) TZ:=bB (cx:=F9) (sh:=T0) (run:=fun n x=>M.mW x.1.2.1 x.1.2.2.1 n x.1.2.2.2.1 x.2.2.1) (bq:=anl) ak T8 aW (aE (by kernel_rfl)) (fun _=>rfl) (fun m x=>by kernel_rfl) (af ⟨bC,fun _ _ _=>rfl⟩ an) false ae
theorem T9:aj (L9 (M.pW)):=aL (cx:=F9) false T8 Tryz.func173 (aH (bH 1 (by kernel_rfl) (bI (.mk (by kernel_rfl) anm)))) ⟨⟨[.own 0],[.arr U.Type]⟩,fun x=>x.2.1⟩ (fun x=>by kernel_rfl)
def Ua(m:M.aa->Option Bool):az K:=cB 174 iv (fun x=>m x.1.1)
def Ub:Cx K:=aT [(175,.plain)] [jE M.j0] []
theorem ann:aK Ub:=aO ak _ (af L0 an)
theorem ano:aj (Ua (M.AN)):=aL (cx:=Ub) true ann Tryz.func174 (aH (aE (by kernel_rfl))) ⟨zs0,fun x=>x.1.1⟩ (fun x=>by kernel_rfl)
def Uc:bo K:=bA D false 19 0 [0,1,7,8] [4] Ud (fun x=>M.uK x.1.1 x.1.2.2.1 ae x.1.2.2.2.1) iJ
def Ue(m:(List M.aa)->Option Int):az K:=cI 208 ⟨[.ah U.Type,.fn 174 []],[]⟩ (fun x=>m x.1.1)
def Ge:Cx K:=aT [(174,.plain)] [Ua M.AN] [(2,Uc)]
theorem Uf:aK Ge:=aO ak _ (af ano an)
theorem anp:bp Ge (bm (bw Tryz.f208) 0) Uc:=bB (cx:=Ge) (sh:=Ud) (run:=fun n x=>M.uK x.1.1 x.1.2.2.1 n x.1.2.2.2.1) (bq:=iK) ak Uf aW (aE (by kernel_rfl)) (fun _=>rfl) (fun m x=>by kernel_rfl) (af ⟨cm,fun _ _ _=>rfl⟩ (af ⟨bC,fun _ _ _=>rfl⟩ an)) false ae
theorem anq:aj (Ue (M.Gf)):=aL (cx:=Ge) true Uf Tryz.func208 (aH (bH 1 (by kernel_rfl) (bI (.mk (by kernel_rfl) anp)))) ⟨zs1,fun x=>x.1.1⟩ (fun x=>by kernel_rfl)
def Ug(m:(List M.aa)->Option Bool):az K:=cB 172 ⟨[.ah U.Type,.fn 174 []],[]⟩ (fun x=>m x.1.1)
def Uh:Cx K:=aT [(208,.plain)] [Ue M.Gf] []
theorem anr:aK Uh:=aO ak _ (af anq an)
theorem ant:aj (Ug (M.AO)):=aL (cx:=Uh) true anr Tryz.func172 (aH (aE (by kernel_rfl))) ⟨zs0,fun x=>x.1.1⟩ (fun x=>by kernel_rfl)
def Ui(m:M.av->Option Bool):az K:=cB 139 lC (fun x=>m x.1.1)
def Uj:Cx K:=aT [(173,.fresh),(172,.plain)] [L9 M.pW,Ug M.AO] []
theorem anu:aK Uj:=aO ak _ (af T9 (af ant an))
theorem anv:aj (Ui (M.AP)):=aL (cx:=Uj) true anu Tryz.func139 (aH (aE (by kernel_rfl))) ⟨zs0,fun x=>x.1.1⟩ (fun x=>by kernel_rfl)
def Uk(m:M.aD->Option Bool):az K:=cB 138 ⟨[.el U.Func],[]⟩ (fun x=>m x.1.1)
def Ul:Cx K:=aT [(139,.plain)] [Ui M.AP] []
theorem anw:aK Ul:=aO ak _ (af anv an)
theorem anx:aj (Uk (M.AQ)):=aL (cx:=Ul) true anw Tryz.func138 (aH (aE (by kernel_rfl))) ⟨zs0,fun x=>x.1.1⟩ (fun x=>by kernel_rfl)
def Um:bo K:=bA D false 19 0 [0,1,7,8] [4] Un (fun x=>M.uL x.1.1 x.1.2.2.1 ae x.1.2.2.2.1) iJ
def Uo(m:(List M.aD)->Option Int):az K:=cI 149 ⟨[.ah U.Func,.fn 138 []],[]⟩ (fun x=>m x.1.1)
def Gg:Cx K:=aT [(138,.plain)] [Uk M.AQ] [(2,Um)]
theorem Up:aK Gg:=aO ak _ (af anx an)
theorem anz:bp Gg (bm (bw Tryz.f149) 0) Um:=bB (cx:=Gg) (sh:=Un) (run:=fun n x=>M.uL x.1.1 x.1.2.2.1 n x.1.2.2.2.1) (bq:=iK) ak Up aW (aE (by kernel_rfl)) (fun _=>rfl) (fun m x=>by kernel_rfl) (af ⟨cm,fun _ _ _=>rfl⟩ (af ⟨bC,fun _ _ _=>rfl⟩ an)) false ae
theorem anA:aj (Uo (M.Gh)):=aL (cx:=Gg) true Up Tryz.func149 (aH (bH 1 (by kernel_rfl) (bI (.mk (by kernel_rfl) anz)))) ⟨zs1,fun x=>x.1.1⟩ (fun x=>by kernel_rfl)
def Ur(m:(List M.aD)->Option Bool):az K:=cB 137 ⟨[.ah U.Func,.fn 138 []],[]⟩ (fun x=>m x.1.1)
def Us:Cx K:=aT [(149,.plain)] [Uo M.Gh] []
theorem anB:aK Us:=aO ak _ (af anA an)
theorem anC:aj (Ur (M.AS)):=aL (cx:=Us) true anB Tryz.func137 (aH (aE (by kernel_rfl))) ⟨zs0,fun x=>x.1.1⟩ (fun x=>by kernel_rfl)
def Gi(m:M.ar->Option ((List UInt8))):az K:=cS 140 Aw (fun x=>m x.1.1)
theorem Mc:aj (Gi (M.mi)):=aL (cx:=dU) true dZ Tryz.func140 (aH (aE (by kernel_rfl))) ⟨ib,fun x=>x.1.1⟩ (fun x=>by kernel_rfl)
def anD(y:Bool⊕((List M.ar)×(List (List UInt8)))){R:Type}(k:KT R):R:=match y with|.inl a0=>kk k Ex.ret xH (((),((),(a0,()))),((),((),())))|.inr a1=>kk k (Ex.exit 0) Ut ((a1.1,((),((),()))),((),(a1.2,())))
def anE:List (cF K ((Bool)⊕((List M.ar)×(List (List UInt8))))):=[⟨Ex.ret,xH,fun x=>.inl x.1.2.2.1⟩,⟨(Ex.exit 0),Ut,fun x=>.inr ((x.1.1,x.2.2.1))⟩]
def Uu:bo K:=bA D false 34 1 [0,3,7,8,9] [0,3,2] Uw (fun x=>M.uM x.1.1 x.1.2.2.1 x.1.2.2.2.1 ae x.1.2.2.2.2.1 x.2.2.1) anD
def Ux(m:(List M.ar)->Option Bool):az K:=cB 106 FK (fun x=>m x.1.1)
def Gj:Cx K:=aT [(136,.plain),(137,.plain),(140,.plain),(141,.plain)] [TX M.AM,Ur M.AS,Gi M.mi,LW M.rB] [(3,Uu)]
theorem Uy:aK Gj:=aO ak _ (af anj (af anC (af Mc (af SU an))))
theorem anF:bp Gj (bm (bw Tryz.f106) 0) Uu:=bB (cx:=Gj) (sh:=Uw) (run:=fun n x=>M.uM x.1.1 x.1.2.2.1 x.1.2.2.2.1 n x.1.2.2.2.2.1 x.2.2.1) (bq:=anE) ak Uy aW (aE (by kernel_rfl)) (fun _=>rfl) (fun m x=>by kernel_rfl) (af ⟨cm,fun _ _ _=>rfl⟩ (af ⟨bC,fun _ _ _=>rfl⟩ an)) false ae
theorem anG:aj (Ux (M.xN)):=aL (cx:=Gj) true Uy Tryz.func106 (aH (bH 1 (by kernel_rfl) (bI (.mk (by kernel_rfl) anF)))) ⟨zs0,fun x=>x.1.1⟩ (fun x=>by kernel_rfl)
def Uz(m:M.al->M.al->Option Bool):az K:=cB 69 ⟨[.el U.Param,.el U.Param],[]⟩ (fun x=>m x.1.1 x.1.2.1)
def UA:Cx K:=aT [(34,.plain)] [mX M.xO] []
theorem anH:aK UA:=aO ak _ (af UB an)
theorem anI:aj (Uz (M.AT)):=aL (cx:=UA) true anH Tryz.func69 (aH (aE (by kernel_rfl))) ⟨zs0,fun x=>x.1.1⟩ (fun x=>by kernel_rfl)
def UC:bo K:=bA D false 27 0 [0,1,5] [4] UD (fun x=>M.uN x.1.1 x.1.2.1 ae x.1.2.2.1) iU
def UE(m:(List M.al)->(List M.al)->Option Bool):az K:=cB 33 ⟨[.ah U.Param,.ah U.Param],[]⟩ (fun x=>m x.1.1 x.1.2.1)
def Gk:Cx K:=aT [(69,.plain)] [Uz M.AT] [(4,UC)]
theorem UF:aK Gk:=aO ak _ (af anI an)
theorem anJ:bp Gk (bm (bw Tryz.f33) 0) UC:=bB (cx:=Gk) (sh:=UD) (run:=fun n x=>M.uN x.1.1 x.1.2.1 n x.1.2.2.1) (bq:=iV) ak UF aW (aE (by kernel_rfl)) (fun _=>rfl) (fun m x=>by kernel_rfl) (af ⟨cm,fun _ _ _=>rfl⟩ (af ⟨bC,fun _ _ _=>rfl⟩ an)) false ae
theorem anK:aj (UE (M.AU)):=aL (cx:=Gk) true UF Tryz.func33 (aH (bH 1 (by kernel_rfl) (bI (.mk (by kernel_rfl) anJ)))) ⟨zs0,fun x=>x.1.1⟩ (fun x=>by kernel_rfl)
def Md(m:M.av->M.av->Option Bool):az K:=cB 9 ⟨[.el U.eK,.el U.eK],[]⟩ (fun x=>m x.1.1 x.1.2.1)
def UG:Cx K:=aT [(33,.plain),(34,.plain)] [UE M.AU,mX M.xO] []
theorem anL:aK UG:=aO ak _ (af anK (af UB an))
theorem UH:aj (Md (M.uO)):=aL (cx:=UG) true anL Tryz.func9 (aH (aE (by kernel_rfl))) ⟨zs0,fun x=>x.1.1⟩ (fun x=>by kernel_rfl)
def UI(m:M.aD->M.aD->Option Bool):az K:=cB 151 ⟨[.el U.Func,.el U.Func],[]⟩ (fun x=>m x.1.1 x.1.2.1)
def UJ:Cx K:=aT [(9,.plain)] [Md M.uO] []
theorem anM:aK UJ:=aO ak _ (af UH an)
theorem anN:aj (UI (M.AW)):=aL (cx:=UJ) true anM Tryz.func151 (aH (aE (by kernel_rfl))) ⟨zs0,fun x=>x.1.1⟩ (fun x=>by kernel_rfl)
def UK:bo K:=bA D false 27 0 [0,1,5] [4] UL (fun x=>M.uP x.1.1 x.1.2.1 ae x.1.2.2.1) iU
def UM(m:(List M.aD)->(List M.aD)->Option Bool):az K:=cB 118 ⟨[.ah U.Func,.ah U.Func],[]⟩ (fun x=>m x.1.1 x.1.2.1)
def Gl:Cx K:=aT [(151,.plain)] [UI M.AW] [(4,UK)]
theorem UN:aK Gl:=aO ak _ (af anN an)
theorem anO:bp Gl (bm (bw Tryz.f118) 0) UK:=bB (cx:=Gl) (sh:=UL) (run:=fun n x=>M.uP x.1.1 x.1.2.1 n x.1.2.2.1) (bq:=iV) ak UN aW (aE (by kernel_rfl)) (fun _=>rfl) (fun m x=>by kernel_rfl) (af ⟨cm,fun _ _ _=>rfl⟩ (af ⟨bC,fun _ _ _=>rfl⟩ an)) false ae
theorem anP:aj (UM (M.AX)):=aL (cx:=Gl) true UN Tryz.func118 (aH (bH 1 (by kernel_rfl) (bI (.mk (by kernel_rfl) anO)))) ⟨zs0,fun x=>x.1.1⟩ (fun x=>by kernel_rfl)
def UO(m:M.ar->M.ar->Option Bool):az K:=cB 72 ⟨[.el U.aQ,.el U.aQ],[]⟩ (fun x=>m x.1.1 x.1.2.1)
def UP:Cx K:=aT [(70,.plain),(118,.plain)] [Me M.uQ,UM M.AX] []
theorem anQ:aK UP:=aO ak _ (af UQ (af anP an))
theorem anR:aj (UO (M.AY)):=aL (cx:=UP) true anQ Tryz.func72 (aH (aE (by kernel_rfl))) ⟨zs0,fun x=>x.1.1⟩ (fun x=>by kernel_rfl)
def UR:bo K:=bA D false 27 0 [0,1,5] [4] US (fun x=>M.uR x.1.1 x.1.2.1 ae x.1.2.2.1) iU
def UT(m:(List M.ar)->(List M.ar)->Option Bool):az K:=cB 35 ⟨[.ah U.aQ,.ah U.aQ],[]⟩ (fun x=>m x.1.1 x.1.2.1)
def Gm:Cx K:=aT [(72,.plain)] [UO M.AY] [(4,UR)]
theorem UU:aK Gm:=aO ak _ (af anR an)
theorem anS:bp Gm (bm (bw Tryz.f35) 0) UR:=bB (cx:=Gm) (sh:=US) (run:=fun n x=>M.uR x.1.1 x.1.2.1 n x.1.2.2.1) (bq:=iV) ak UU aW (aE (by kernel_rfl)) (fun _=>rfl) (fun m x=>by kernel_rfl) (af ⟨cm,fun _ _ _=>rfl⟩ (af ⟨bC,fun _ _ _=>rfl⟩ an)) false ae
theorem anT:aj (UT (M.xP)):=aL (cx:=Gm) true UU Tryz.func35 (aH (bH 1 (by kernel_rfl) (bI (.mk (by kernel_rfl) anS)))) ⟨zs0,fun x=>x.1.1⟩ (fun x=>by kernel_rfl)
def UW(m:M.bk->Int->Option Int):az K:=cI 54 ⟨[.el U.dA,.int .i64],[]⟩ (fun x=>m x.1.1 x.1.2.1)
theorem anU:aj (UW (M.AZ)):=aL (cx:=dU) true dZ Tryz.func54 (aH (aE (by kernel_rfl))) ⟨zs1,fun x=>x.1.1⟩ (fun x=>by kernel_rfl)
def UX:bo K:=bA D false 27 0 [0,1,5] [1,4] UY (fun x=>M.uS x.1.1 ae x.1.2.1 x.1.2.2.1) lD
def UZ(m:(List M.bk)->Int->Option Int):az K:=cI 19 ⟨[.ah U.dA,.int .i64],[]⟩ (fun x=>m x.1.1 x.1.2.1)
def Gn:Cx K:=aT [(54,.plain)] [UW M.AZ] [(5,UX)]
theorem U0:aK Gn:=aO ak _ (af anU an)
theorem anV:bp Gn (bm (bw Tryz.f19) 0) UX:=bB (cx:=Gn) (sh:=UY) (run:=fun n x=>M.uS x.1.1 n x.1.2.1 x.1.2.2.1) (bq:=lE) ak U0 aW (aE (by kernel_rfl)) (fun _=>rfl) (fun m x=>by kernel_rfl) (af ⟨cm,fun _ _ _=>rfl⟩ (af ⟨bC,fun _ _ _=>rfl⟩ an)) false ae
theorem anW:aj (UZ (M.A0)):=aL (cx:=Gn) true U0 Tryz.func19 (aH (bH 1 (by kernel_rfl) (bI (.mk (by kernel_rfl) anV)))) ⟨zs1,fun x=>x.1.1⟩ (fun x=>by kernel_rfl)
def U1(m:M.bh->Int->Option Int):az K:=cI 55 ⟨[.el U.Lower,.int .i64],[]⟩ (fun x=>m x.1.1 x.1.2.1)
theorem anX:aj (U1 (M.A1)):=aL (cx:=dU) true dZ Tryz.func55 (aH (aE (by kernel_rfl))) ⟨zs1,fun x=>x.1.1⟩ (fun x=>by kernel_rfl)
def U2:bo K:=bA D false 27 0 [0,1,5] [1,4] U3 (fun x=>M.uT x.1.1 ae x.1.2.1 x.1.2.2.1) lD
def U4(m:(List M.bh)->Int->Option Int):az K:=cI 20 ⟨[.ah U.Lower,.int .i64],[]⟩ (fun x=>m x.1.1 x.1.2.1)
def Gp:Cx K:=aT [(55,.plain)] [U1 M.A1] [(5,U2)]
theorem U5:aK Gp:=aO ak _ (af anX an)
theorem anY:bp Gp (bm (bw Tryz.f20) 0) U2:=bB (cx:=Gp) (sh:=U3) (run:=fun n x=>M.uT x.1.1 n x.1.2.1 x.1.2.2.1) (bq:=lE) ak U5 aW (aE (by kernel_rfl)) (fun _=>rfl) (fun m x=>by kernel_rfl) (af ⟨cm,fun _ _ _=>rfl⟩ (af ⟨bC,fun _ _ _=>rfl⟩ an)) false ae
theorem anZ:aj (U4 (M.A2)):=aL (cx:=Gp) true U5 Tryz.func20 (aH (bH 1 (by kernel_rfl) (bI (.mk (by kernel_rfl) anY)))) ⟨zs1,fun x=>x.1.1⟩ (fun x=>by kernel_rfl)
def U6(m:M.bg->Int->Option Int):az K:=cI 56 ⟨[.el U.Builtin,.int .i64],[]⟩ (fun x=>m x.1.1 x.1.2.1)
theorem an0:aj (U6 (M.A3)):=aL (cx:=dU) true dZ Tryz.func56 (aH (aE (by kernel_rfl))) ⟨zs1,fun x=>x.1.1⟩ (fun x=>by kernel_rfl)
def U7:bo K:=bA D false 27 0 [0,1,5] [1,4] U8 (fun x=>M.uU x.1.1 ae x.1.2.1 x.1.2.2.1) lD
def U9(m:(List M.bg)->Int->Option Int):az K:=cI 21 ⟨[.ah U.Builtin,.int .i64],[]⟩ (fun x=>m x.1.1 x.1.2.1)
def Gq:Cx K:=aT [(56,.plain)] [U6 M.A3] [(5,U7)]
theorem Va:aK Gq:=aO ak _ (af an0 an)
theorem an1:bp Gq (bm (bw Tryz.f21) 0) U7:=bB (cx:=Gq) (sh:=U8) (run:=fun n x=>M.uU x.1.1 n x.1.2.1 x.1.2.2.1) (bq:=lE) ak Va aW (aE (by kernel_rfl)) (fun _=>rfl) (fun m x=>by kernel_rfl) (af ⟨cm,fun _ _ _=>rfl⟩ (af ⟨bC,fun _ _ _=>rfl⟩ an)) false ae
theorem an2:aj (U9 (M.A4)):=aL (cx:=Gq) true Va Tryz.func21 (aH (bH 1 (by kernel_rfl) (bI (.mk (by kernel_rfl) an1)))) ⟨zs1,fun x=>x.1.1⟩ (fun x=>by kernel_rfl)
def Vb(m:M.aX->Int->Option Int):az K:=cI 5 ⟨[.el U.eL,.int .i64],[]⟩ (fun x=>m x.1.1 x.1.2.1)
def Vd:Cx K:=aT [(17,.plain),(18,.plain),(19,.plain),(20,.plain),(21,.plain)] [Ve M.xQ,Vf M.A5,UZ M.A0,U4 M.A2,U9 M.A4] []
theorem an3:aK Vd:=aO ak _ (af an4 (af an5 (af anW (af anZ (af an2 an)))))
theorem an6:aj (Vb (M.A6)):=aL (cx:=Vd) true an3 Tryz.func5 (aH (aE (by kernel_rfl))) ⟨zs1,fun x=>x.1.1⟩ (fun x=>by kernel_rfl)
def Vg(m:M.bk->Option (M.bk)):az K:={f:=63,sh:=⟨[.el U.dA],[]⟩,R:=M.bk,run:=fun x=>m x.1.1,dflt:=default,out:=fun r=>(Sh.enc D (.el U.dA) r,aU.encs D [] ())}
theorem an7:aj (Vg (M.Gs)):=aL (cx:=xR) false A7 Tryz.func63 (aH (aE (by kernel_rfl))) ⟨⟨[.el U.dA],[]⟩,fun x=>x.1.1⟩ (fun x=>by kernel_rfl)
def an8(y:(List M.bk)){R:Type}(k:KT R):R:=match y with|a0=>kk k (Ex.exit 0) ⟨[.own 1],[.dead,.arr U.dA]⟩ (((),()),((),(a0,())))
def an9:List (cF K ((List M.bk))):=[⟨(Ex.exit 0),⟨[.own 1],[.dead,.arr U.dA]⟩,fun x=>x.2.2.1⟩]
def Vh:bo K:=bA D false 23 1 [0,3,4] [3] Vi (fun x=>M.rH x.1.1 ae x.1.2.2.1 x.2.2.1) an8
def Vj(m:(List M.bk)->Option ((List M.bk))):az K:={f:=27,sh:=⟨[.ah U.dA],[]⟩,R:=(List M.bk),run:=fun x=>m x.1.1,dflt:=default,out:=fun r=>(Sh.enc D (.own 0) (),aU.encs D [.arr U.dA] (r,()))}
def Gt:Cx K:={dc with mode:=cV .plain [(63,.fresh)],eJ:=[[some U.dA]],deep:=fun c=>cQ (D.cells c (K.zero c)),call:=callOf D [Vg M.Gs],loop:=cP [(3,Vh)]}
theorem Vk:aK Gt:=aO ak _ (af an7 an)
theorem aoa:bp Gt (bm (bw Tryz.f27) 0) Vh:=bB (cx:=Gt) (sh:=Vi) (run:=fun n x=>M.rH x.1.1 n x.1.2.2.1 x.2.2.1) (bq:=an9) ak Vk aW (aE (by kernel_rfl)) (fun _=>rfl) (fun m x=>by kernel_rfl) (af ⟨bC,fun _ _ _=>rfl⟩ an) false ae
theorem aob:aj (Vj (M.A8)):=aL (cx:=Gt) false Vk Tryz.func27 (aH (bH 1 (by kernel_rfl) (bI (.mk (by kernel_rfl) aoa)))) ⟨⟨[.own 0],[.arr U.dA]⟩,fun x=>x.2.1⟩ (fun x=>by kernel_rfl)
def Vl(m:M.bh->Option (M.bh)):az K:={f:=64,sh:=⟨[.el U.Lower],[]⟩,R:=M.bh,run:=fun x=>m x.1.1,dflt:=default,out:=fun r=>(Sh.enc D (.el U.Lower) r,aU.encs D [] ())}
theorem aoc:aj (Vl (M.Gu)):=aL (cx:=xR) false A7 Tryz.func64 (aH (aE (by kernel_rfl))) ⟨⟨[.el U.Lower],[]⟩,fun x=>x.1.1⟩ (fun x=>by kernel_rfl)
def aod(y:(List M.bh)){R:Type}(k:KT R):R:=match y with|a0=>kk k (Ex.exit 0) ⟨[.own 1],[.dead,.arr U.Lower]⟩ (((),()),((),(a0,())))
def aoe:List (cF K ((List M.bh))):=[⟨(Ex.exit 0),⟨[.own 1],[.dead,.arr U.Lower]⟩,fun x=>x.2.2.1⟩]
def Vm:bo K:=bA D false 23 1 [0,3,4] [3] Vn (fun x=>M.rI x.1.1 ae x.1.2.2.1 x.2.2.1) aod
def Vo(m:(List M.bh)->Option ((List M.bh))):az K:={f:=28,sh:=⟨[.ah U.Lower],[]⟩,R:=(List M.bh),run:=fun x=>m x.1.1,dflt:=default,out:=fun r=>(Sh.enc D (.own 0) (),aU.encs D [.arr U.Lower] (r,()))}
def Gv:Cx K:={dc with mode:=cV .plain [(64,.fresh)],eJ:=[[some U.Lower]],deep:=fun c=>cQ (D.cells c (K.zero c)),call:=callOf D [Vl M.Gu],loop:=cP [(3,Vm)]}
theorem Vp:aK Gv:=aO ak _ (af aoc an)
theorem aof:bp Gv (bm (bw Tryz.f28) 0) Vm:=bB (cx:=Gv) (sh:=Vn) (run:=fun n x=>M.rI x.1.1 n x.1.2.2.1 x.2.2.1) (bq:=aoe) ak Vp aW (aE (by kernel_rfl)) (fun _=>rfl) (fun m x=>by kernel_rfl) (af ⟨bC,fun _ _ _=>rfl⟩ an) false ae
theorem aog:aj (Vo (M.A9)):=aL (cx:=Gv) false Vp Tryz.func28 (aH (bH 1 (by kernel_rfl) (bI (.mk (by kernel_rfl) aof)))) ⟨⟨[.own 0],[.arr U.Lower]⟩,fun x=>x.2.1⟩ (fun x=>by kernel_rfl)
def Vq(m:M.bg->Option (M.bg)):az K:={f:=65,sh:=⟨[.el U.Builtin],[]⟩,R:=M.bg,run:=fun x=>m x.1.1,dflt:=default,out:=fun r=>(Sh.enc D (.el U.Builtin) r,aU.encs D [] ())}
theorem aoh:aj (Vq (M.Gw)):=aL (cx:=xR) false A7 Tryz.func65 (aH (aE (by kernel_rfl))) ⟨⟨[.el U.Builtin],[]⟩,fun x=>x.1.1⟩ (fun x=>by kernel_rfl)
def aoi(y:(List M.bg)){R:Type}(k:KT R):R:=match y with|a0=>kk k (Ex.exit 0) ⟨[.own 1],[.dead,.arr U.Builtin]⟩ (((),()),((),(a0,())))
def aoj:List (cF K ((List M.bg))):=[⟨(Ex.exit 0),⟨[.own 1],[.dead,.arr U.Builtin]⟩,fun x=>x.2.2.1⟩]
def Vr:bo K:=bA D false 23 1 [0,3,4] [3] Vs (fun x=>M.rJ x.1.1 ae x.1.2.2.1 x.2.2.1) aoi
def Vt(m:(List M.bg)->Option ((List M.bg))):az K:={f:=29,sh:=⟨[.ah U.Builtin],[]⟩,R:=(List M.bg),run:=fun x=>m x.1.1,dflt:=default,out:=fun r=>(Sh.enc D (.own 0) (),aU.encs D [.arr U.Builtin] (r,()))}
def Gx:Cx K:={dc with mode:=cV .plain [(65,.fresh)],eJ:=[[some U.Builtin]],deep:=fun c=>cQ (D.cells c (K.zero c)),call:=callOf D [Vq M.Gw],loop:=cP [(3,Vr)]}
theorem Vu:aK Gx:=aO ak _ (af aoh an)
theorem aok:bp Gx (bm (bw Tryz.f29) 0) Vr:=bB (cx:=Gx) (sh:=Vs) (run:=fun n x=>M.rJ x.1.1 n x.1.2.2.1 x.2.2.1) (bq:=aoj) ak Vu aW (aE (by kernel_rfl)) (fun _=>rfl) (fun m x=>by kernel_rfl) (af ⟨bC,fun _ _ _=>rfl⟩ an) false ae
theorem aol:aj (Vt (M.Ba)):=aL (cx:=Gx) false Vu Tryz.func29 (aH (bH 1 (by kernel_rfl) (bI (.mk (by kernel_rfl) aok)))) ⟨⟨[.own 0],[.arr U.Builtin]⟩,fun x=>x.2.1⟩ (fun x=>by kernel_rfl)
def aom(y:Bool⊕(M.aR)){R:Type}(k:KT R):R:=match y with|.inl a0=>kk k Ex.ret xU (((),(a0,())),((),()))|.inr a1=>kk k (Ex.exit 0) ⟨[.ptr 0 0,.any],[.el U.Module]⟩ (((),((),())),(a1,()))
def aon:List (cF K ((Bool)⊕(M.aR))):=[⟨Ex.ret,xU,fun x=>.inl x.1.2.1⟩,⟨(Ex.exit 0),⟨[.ptr 0 0,.any],[.el U.Module]⟩,fun x=>.inr (x.2.1)⟩]
def Vv:bo K:=bA D false 82 1 [1,3] [1,2] xW (fun x=>M.uV x.2.1 ae x.1.2.1) aom
def Vw(m:M.aJ->Option Bool):az K:=cB 263 Bc (fun x=>m x.1.1)
def Vx:Cx K:=aT [(318,.plain),(92,.plain)] [Vy M.MA,pX M.pY] []
theorem aoo:aK Vx:=aO ak _ (af aop (af rK an))
theorem aoq:aj (Vw (M.Gy)):=aL (cx:=Vx) true aoo Tryz.func263 (aH (aE (by kernel_rfl))) ⟨zs0,fun x=>x.1.1⟩ (fun x=>by kernel_rfl)
def Vz:bo K:=bA D false 40 1 [1,3] [2] ⟨[.ptr 0 0,.int .i64],[.el U.Core]⟩ (fun x=>M.uW x.2.1 ae x.1.2.1) rx
def VA(m:M.aw->Option Bool):az K:=cB 227 Bd (fun x=>m x.1.1)
def Gz:Cx K:=aT [(225,.plain),(92,.plain),(263,.plain)] [MB M.uX,pX M.pY,Vw M.Gy] [(4,Vz)]
theorem VB:aK Gz:=aO ak _ (af VC (af rK (af aoq an)))
theorem aor:bp Gz (bm (bw Tryz.f227) 0) Vz:=bB (cx:=Gz) (sh:=⟨[.ptr 0 0,.int .i64],[.el U.Core]⟩) (run:=fun n x=>M.uW x.2.1 n x.1.2.1) (bq:=ry) ak VB aW (aE (by kernel_rfl)) (fun _=>rfl) (fun m x=>by kernel_rfl) (af ⟨cm,fun _ _ _=>rfl⟩ (af ⟨bC,fun _ _ _=>rfl⟩ an)) false ae
theorem aos:aj (VA (M.Be)):=aL (cx:=Gz) true VB Tryz.func227 (aH (bH 1 (by kernel_rfl) (bI (.mk (by kernel_rfl) aor)))) ⟨zs0,fun x=>x.1.1⟩ (fun x=>by kernel_rfl)
def VD:bo K:=bA D false 82 1 [1,5] [2] xW (fun x=>M.uY x.2.1 ae x.1.2.1) VE
def VF(m:M.aR->Option Bool):az K:=cB 194 pZ (fun x=>m x.1.1)
def xX:Cx K:=aT [(92,.plain),(225,.plain),(226,.plain),(227,.plain),(228,.plain)] [pX M.pY,MB M.uX,VG M.Bg,VA M.Be,VH M.Bh] [(4,Vv),(10,VD)]
theorem MC:aK xX:=aO ak _ (af rK (af VC (af aot (af aos (af aou an)))))
theorem aov:bp xX (bm (bw Tryz.f194) 0) Vv:=bB (cx:=xX) (sh:=xW) (run:=fun n x=>M.uV x.2.1 n x.1.2.1) (bq:=aon) ak MC aW (aE (by kernel_rfl)) (fun _=>rfl) (fun m x=>by kernel_rfl) (af ⟨cm,fun _ _ _=>rfl⟩ (af ⟨bC,fun _ _ _=>rfl⟩ an)) false ae
theorem aow:bp xX (bm (bw Tryz.f194) 1) VD:=bB (cx:=xX) (sh:=xW) (run:=fun n x=>M.uY x.2.1 n x.1.2.1) (bq:=VI) ak MC aW (aE (by kernel_rfl)) (fun _=>rfl) (fun m x=>by kernel_rfl) (af ⟨cm,fun _ _ _=>rfl⟩ (af ⟨bC,fun _ _ _=>rfl⟩ an)) false ae
theorem aox:aj (VF (M.Bi)):=aL (cx:=xX) true MC Tryz.func194 (aH (bH 2 (by kernel_rfl) (lt_succ (bI (.mk (by kernel_rfl) aov)) (.mk (by kernel_rfl) aow)))) ⟨zs0,fun x=>x.1.1⟩ (fun x=>by kernel_rfl)
def VJ(y:(Int×Int×Int)⊕Unit){R:Type}(k:KT R):R:=match y with|.inl a0=>kk k Ex.ret VK ((a0.1,(a0.2.1,(a0.2.2,()))),((),()))|.inr a1=>kk k (Ex.exit 0) VL (((),((),((),()))),((),()))
def VM:List (cF K ((Int×Int×Int)⊕Unit)):=[⟨Ex.ret,VK,fun x=>.inl (x.1.1,x.1.2.1,x.1.2.2.1)⟩,⟨(Ex.exit 0),VL,fun x=>.inr (())⟩]
def VN:bo K:=bA D false 33 1 [1,5] [2,3,4] xW (fun x=>M.rL x.2.1 ae x.1.2.1) VJ
def VO(m:M.aR->Option (Int×Int×Int)):az K:={f:=158,sh:=pZ,R:=Int×Int×Int,run:=fun x=>m x.1.1,dflt:=default,out:=fun r=>(Sh.enc D (.bT [.int .i64,.int .i64,.int .i64]) (r.1,(r.2.1,(r.2.2,()))),aU.encs D [] ())}
def GF:Cx K:=aT [(194,.plain),(195,.ez)] [VF M.Bi,VP M.Bj] [(4,VN)]
theorem VQ:aK GF:=aO ak _ (af aox (af aoy an))
theorem aoz:bp GF (bm (bw Tryz.f158) 0) VN:=bB (cx:=GF) (sh:=xW) (run:=fun n x=>M.rL x.2.1 n x.1.2.1) (bq:=VM) ak VQ aW (aE (by kernel_rfl)) (fun _=>rfl) (fun m x=>by kernel_rfl) (af ⟨cm,fun _ _ _=>rfl⟩ (af ⟨bC,fun _ _ _=>rfl⟩ an)) false ae
theorem aoA:aj (VO (M.Bl)):=aL (cx:=GF) true VQ Tryz.func158 (aH (bH 1 (by kernel_rfl) (bI (.mk (by kernel_rfl) aoz)))) ⟨MD,fun x=>(x.1.1.1,x.1.1.2.1,x.1.1.2.2.1)⟩ (fun x=>by kernel_rfl)
def VR(m:M.aR->Option Bool):az K:=cB 128 pZ (fun x=>m x.1.1)
def VS:Cx K:=aT [(158,.plain)] [VO M.Bl] []
theorem aoB:aK VS:=aO ak _ (af aoA an)
theorem aoC:aj (VR (M.GG)):=aL (cx:=VS) true aoB Tryz.func128 (aH (aE (by kernel_rfl))) ⟨zs0,fun x=>x.1.1⟩ (fun x=>by kernel_rfl)
def VT(m:M.aR->Option Bool):az K:=cB 93 pZ (fun x=>m x.1.1)
def VU:Cx K:=aT [(128,.plain)] [VR M.GG] []
theorem aoD:aK VU:=aO ak _ (af aoC an)
theorem aoE:aj (VT (M.Bm)):=aL (cx:=VU) true aoD Tryz.func93 (aH (aE (by kernel_rfl))) ⟨zs0,fun x=>x.1.1⟩ (fun x=>by kernel_rfl)
def ME(y:Int⊕Unit){R:Type}(k:KT R):R:=match y with|.inl a0=>kk k Ex.ret VV ((a0,()),((),()))|.inr a1=>kk k (Ex.exit 0) xY (((),()),((),()))
def MF:List (cF K ((Int)⊕Unit)):=[⟨Ex.ret,VV,fun x=>.inl x.1.1⟩,⟨(Ex.exit 0),xY,fun x=>.inr (())⟩]
def VW:bo K:=bA D false 22 1 [1,2,5] [4] GH (fun x=>M.ue x.1.1 x.2.1 ae x.1.2.2.1) ME
def VX(m:M.aR->(List UInt8)->Option Int):az K:=cI 129 GI (fun x=>m x.1.1 x.1.2.1)
def GK:Cx K:=aT [] [] [(2,VW)]
theorem VY:aK GK:=aO ak _ an
theorem aoF:bp GK (bm (bw Tryz.f129) 0) VW:=bB (cx:=GK) (sh:=GH) (run:=fun n x=>M.ue x.1.1 x.2.1 n x.1.2.2.1) (bq:=MF) ak VY aW (aE (by kernel_rfl)) (fun _=>rfl) (fun m x=>by kernel_rfl) (af ⟨cm,fun _ _ _=>rfl⟩ (af ⟨bC,fun _ _ _=>rfl⟩ an)) false ae
theorem aoG:aj (VX (M.Aa)):=aL (cx:=GK) true VY Tryz.func129 (aH (bH 1 (by kernel_rfl) (bI (.mk (by kernel_rfl) aoF)))) ⟨zs1,fun x=>x.1.1⟩ (fun x=>by kernel_rfl)
def qa(m:M.aa->Option (M.aa)):az K:={f:=59,sh:=iv,R:=M.aa,run:=fun x=>m x.1.1,dflt:=default,out:=fun r=>(Sh.enc D (.el U.Type) r,aU.encs D [] ())}
def aoH(y:Int×(List UInt8)×Int×(List UInt8)×(List (List UInt8))×(List M.aa)×(List (List UInt8))×(List M.aa)){R:Type}(k:KT R):R:=match y with|a0=>kk k (Ex.exit 0) VZ (((),((),())),((),((a0.1,(a0.2.1,((),((),())))),((a0.2.2.1,(a0.2.2.2.1,((),((),())))),((),((),((),((),(a0.2.2.2.2.1,(a0.2.2.2.2.2.1,(a0.2.2.2.2.2.2.1,(a0.2.2.2.2.2.2.2,()))))))))))))
def aoI:List (cF K (Int×(List UInt8)×Int×(List UInt8)×(List (List UInt8))×(List M.aa)×(List (List UInt8))×(List M.aa))):=[⟨(Ex.exit 0),VZ,fun x=>(x.2.2.1.1,x.2.2.1.2.1,x.2.2.2.1.1,x.2.2.2.1.2.1,x.2.2.2.2.2.2.2.2.1,x.2.2.2.2.2.2.2.2.2.1,x.2.2.2.2.2.2.2.2.2.2.1,x.2.2.2.2.2.2.2.2.2.2.2.1)⟩]
def V0(fP:M.aa->Option (M.aa)):bo K:=bA D false 33 7 [1,2,3,4] [2,3] V1 (fun x=>M.rM fP x.2.2.1.1 x.2.2.1.2.1 x.2.2.2.1.1 x.2.2.2.1.2.1 x.2.2.2.2.2.2.2.2.1 x.2.2.2.2.2.2.2.2.2.1 x.2.2.2.2.2.2.2.2.2.2.1 ae x.1.2.2.2.1 x.2.1 x.2.2.2.2.2.2.2.2.2.2.2.1) aoH
def GL(fP:M.aa->Option (M.aa)):Cx K:=aT [(59,.ez)] [qa fP] [(3,V0 fP)]
theorem V2(fP:M.aa->Option (M.aa))(xZ:aj (qa fP)):aK (GL fP):=aO ak _ (af xZ an)
theorem aoJ(fP:M.aa->Option (M.aa))(xZ:aj (qa fP)):bp (GL fP) (bm (bw Tryz.f59) 0) (V0 fP):=bB (cx:=GL fP) (sh:=V1) (run:=fun n x=>M.rM fP x.2.2.1.1 x.2.2.1.2.1 x.2.2.2.1.1 x.2.2.2.1.2.1 x.2.2.2.2.2.2.2.2.1 x.2.2.2.2.2.2.2.2.2.1 x.2.2.2.2.2.2.2.2.2.2.1 n x.1.2.2.2.1 x.2.1 x.2.2.2.2.2.2.2.2.2.2.2.1) (bq:=aoI) ak (V2 fP xZ) aW (aE (by kernel_rfl)) (fun _=>rfl) (fun m x=>by kernel_rfl) (af ⟨bC,fun _ _ _=>rfl⟩ an) false ae
theorem aoK(fP:M.aa->Option (M.aa))(xZ:aj (qa fP)):aj (qa (M.GM fP)):=fb (cx:=GL fP) (fz:=true) ak (V2 fP xZ) aW ⟨Tryz.func59,by kernel_rfl⟩ (aH (bH 1 (by kernel_rfl) (bI (.mk (by kernel_rfl) (aoJ fP xZ))))) ⟨iv,fun x=>x.1.1⟩ (fun x=>rfl) (fun x=>by kernel_rfl)
theorem V3:∀n,aj (qa (M.rN n))|0=>ic fun _=>rfl|n+1=>aoK (M.rN n) (V3 n)
theorem V4:aj (qa (M.rO)):=V3 ae
def aoL(y:(List M.aa)){R:Type}(k:KT R):R:=match y with|a0=>kk k (Ex.exit 0) ⟨[.own 2],[.dead,.dead,.arr U.Type]⟩ (((),()),((),((),(a0,()))))
def aoM:List (cF K ((List M.aa))):=[⟨(Ex.exit 0),⟨[.own 2],[.dead,.dead,.arr U.Type]⟩,fun x=>x.2.2.2.1⟩]
def V5:bo K:=bA D false 24 2 [1,3,4] [3] V6 (fun x=>M.rP ae x.1.2.2.1 x.2.1 x.2.2.2.1) aoL
def V7(m:M.av->Option ((List M.aa))):az K:={f:=159,sh:=lC,R:=(List M.aa),run:=fun x=>m x.1.1,dflt:=default,out:=fun r=>(Sh.enc D (.ah U.Type) r,aU.encs D [] ())}
def GN:Cx K:=aT [(59,.ez)] [qa M.rO] [(3,V5)]
theorem V8:aK GN:=aO ak _ (af V4 an)
theorem aoN:bp GN (bm (bw Tryz.f159) 0) V5:=bB (cx:=GN) (sh:=V6) (run:=fun n x=>M.rP n x.1.2.2.1 x.2.1 x.2.2.2.1) (bq:=aoM) ak V8 aW (aE (by kernel_rfl)) (fun _=>rfl) (fun m x=>by kernel_rfl) (af ⟨bC,fun _ _ _=>rfl⟩ an) false ae
theorem aoO:aj (V7 (M.Bn)):=aL (cx:=GN) true V8 Tryz.func159 (aH (bH 1 (by kernel_rfl) (bI (.mk (by kernel_rfl) aoN)))) ⟨lF,fun x=>x.1.1⟩ (fun x=>by kernel_rfl)
def V9(m:M.aa->Option Bool):az K:=cB 233 iv (fun x=>m x.1.1)
def Wa:Cx K:=aT [(192,.plain)] [MG M.rQ] []
theorem aoP:aK Wa:=aO ak _ (af Wb an)
theorem aoQ:aj (V9 (M.Bo)):=aL (cx:=Wa) true aoP Tryz.func233 (aH (aE (by kernel_rfl))) ⟨zs0,fun x=>x.1.1⟩ (fun x=>by kernel_rfl)
def aoR(y:Bool⊕((List M.aa))){R:Type}(k:KT R):R:=match y with|.inl a0=>kk k Ex.ret GO (((),(a0,())),())|.inr a1=>kk k (Ex.exit 0) ⟨[.ah U.Type,.any],[]⟩ ((a1,((),())),())
def aoS:List (cF K ((Bool)⊕((List M.aa)))):=[⟨Ex.ret,GO,fun x=>.inl x.1.2.1⟩,⟨(Ex.exit 0),⟨[.ah U.Type,.any],[]⟩,fun x=>.inr (x.1.1)⟩]
def Wc:bo K:=bA D false 23 0 [0,3] [0,2] GQ (fun x=>M.uZ x.1.1 ae x.1.2.1) aoR
def We(m:(List M.aa)->Option Bool):az K:=cB 196 lF (fun x=>m x.1.1)
def GR:Cx K:=aT [(233,.plain)] [V9 M.Bo] [(2,Wc)]
theorem Wg:aK GR:=aO ak _ (af aoQ an)
theorem aoT:bp GR (bm (bw Tryz.f196) 0) Wc:=bB (cx:=GR) (sh:=GQ) (run:=fun n x=>M.uZ x.1.1 n x.1.2.1) (bq:=aoS) ak Wg aW (aE (by kernel_rfl)) (fun _=>rfl) (fun m x=>by kernel_rfl) (af ⟨cm,fun _ _ _=>rfl⟩ (af ⟨bC,fun _ _ _=>rfl⟩ an)) false ae
theorem aoU:aj (We (M.ya)):=aL (cx:=GR) true Wg Tryz.func196 (aH (bH 1 (by kernel_rfl) (bI (.mk (by kernel_rfl) aoT)))) ⟨zs0,fun x=>x.1.1⟩ (fun x=>by kernel_rfl)
def lG(m:(List M.aa)->Option ((List Int))):az K:={f:=197,sh:=lF,R:=(List Int),run:=fun x=>m x.1.1,dflt:=default,out:=fun r=>(Sh.enc D (.ah U.i64) r,aU.encs D [] ())}
def Wh(m:M.aa->Option ((List M.aa))):az K:={f:=273,sh:=iv,R:=(List M.aa),run:=fun x=>m x.1.1,dflt:=default,out:=fun r=>(Sh.enc D (.ah U.Type) r,aU.encs D [] ())}
theorem aoV:aj (Wh (M.Bq)):=aL (cx:=dU) true dZ Tryz.func273 (aH (aE (by kernel_rfl))) ⟨lF,fun x=>x.1.1⟩ (fun x=>by kernel_rfl)
def rR(m:M.aa->Option ((List Int))):az K:={f:=234,sh:=iv,R:=(List Int),run:=fun x=>m x.1.1,dflt:=default,out:=fun r=>(Sh.enc D (.ah U.i64) r,aU.encs D [] ())}
def GU(y:(List Int)){R:Type}(k:KT R):R:=match y with|a0=>kk k (Ex.exit 0) GV (((),()),((),(a0,())))
def GX:List (cF K ((List Int))):=[⟨(Ex.exit 0),GV,fun x=>x.2.2.1⟩]
def Wi:bo K:=bA D false 57 1 [0,1,5,6] [5] Wj (fun x=>M.ou x.1.1 x.1.2.1 ae x.1.2.2.2.1 x.2.2.1) GU
def Wl(m:(List Int)->(List Int)->Option ((List Int))):az K:={f:=274,sh:=⟨[.ah U.i64,.ah U.i64],[]⟩,R:=(List Int),run:=fun x=>m x.1.1 x.1.2.1,dflt:=default,out:=fun r=>(Sh.enc D (.own 0) (),aU.encs D [.arr U.i64] (r,()))}
def GY:Cx K:={dc with mode:=cV .plain [(261,.plain)],eJ:=[[some U.i64]],call:=callOf D [MH M.mY],loop:=cP [(3,Wi)]}
theorem Wm:aK GY:=aO ak _ (af Wn an)
theorem aoW:bp GY (bm (bw Tryz.f274) 0) Wi:=bB (cx:=GY) (sh:=Wj) (run:=fun n x=>M.ou x.1.1 x.1.2.1 n x.1.2.2.2.1 x.2.2.1) (bq:=GX) ak Wm aW (aE (by kernel_rfl)) (fun _=>rfl) (fun m x=>by kernel_rfl) (af ⟨bC,fun _ _ _=>rfl⟩ an) false ae
theorem aoX:aj (Wl (M.Br)):=aL (cx:=GY) false Wm Tryz.func274 (aH (bH 1 (by kernel_rfl) (bI (.mk (by kernel_rfl) aoW)))) ⟨MI,fun x=>x.2.1⟩ (fun x=>by kernel_rfl)
def Wp(y:(List Int)){R:Type}(k:KT R):R:=match y with|a0=>kk k (Ex.exit 1) GV (((),()),((),(a0,())))
def Wq:List (cF K ((List Int))):=[⟨(Ex.exit 1),GV,fun x=>x.2.2.1⟩]
def Ws(fQ:M.aa->Option ((List Int))):bo K:=bA D false 47 1 [3,4,5] [4] GZ (fun x=>M.rS fQ x.1.1 ae x.1.2.2.1 x.2.2.1) Wp
def G0(cX:(List M.aa)->Option ((List Int)))(fQ:M.aa->Option ((List Int))):Cx K:=aT [(197,.ez),(273,.ez),(234,.ez),(274,.fresh)] [lG cX,Wh M.Bq,rR fQ,Wl M.Br] [(18,Ws fQ)]
theorem Wu(cX:(List M.aa)->Option ((List Int)))(iW:aj (lG cX))(fQ:M.aa->Option ((List Int)))(yb:aj (rR fQ)):aK (G0 cX fQ):=aO ak _ (af iW (af aoV (af yb (af aoX an))))
theorem aoY(cX:(List M.aa)->Option ((List Int)))(iW:aj (lG cX))(fQ:M.aa->Option ((List Int)))(yb:aj (rR fQ)):bp (G0 cX fQ) (bm (bw Tryz.f234) 0) (Ws fQ):=bB (cx:=G0 cX fQ) (sh:=GZ) (run:=fun n x=>M.rS fQ x.1.1 n x.1.2.2.1 x.2.2.1) (bq:=Wq) ak (Wu cX iW fQ yb) aW (aE (by kernel_rfl)) (fun _=>rfl) (fun m x=>by kernel_rfl) (af ⟨bC,fun _ _ _=>rfl⟩ an) false ae
theorem aoZ(cX:(List M.aa)->Option ((List Int)))(iW:aj (lG cX))(fQ:M.aa->Option ((List Int)))(yb:aj (rR fQ)):aj (rR (M.G1 cX fQ)):=fb (cx:=G0 cX fQ) (fz:=true) ak (Wu cX iW fQ yb) aW ⟨Tryz.func234,by kernel_rfl⟩ (aH (bH 1 (by kernel_rfl) (bI (.mk (by kernel_rfl) (aoY cX iW fQ yb))))) ⟨rT,fun x=>x.1.1⟩ (fun x=>rfl) (fun x=>by kernel_rfl)
theorem Wv(cX:(List M.aa)->Option ((List Int)))(iW:aj (lG cX)):∀n,aj (rR (M.rU cX n))|0=>ic fun _=>rfl|n+1=>aoZ cX iW (M.rU cX n) (Wv cX iW n)
theorem ao0(cX:(List M.aa)->Option ((List Int)))(iW:aj (lG cX)):aj (rR (M.G2 cX)):=Wv cX iW ae
def Ww(cX:(List M.aa)->Option ((List Int))):bo K:=bA D false 20 1 [0,3,4] [3] GZ (fun x=>M.rV cX x.1.1 ae x.1.2.2.1 x.2.2.1) GU
def G3(cX:(List M.aa)->Option ((List Int))):Cx K:=aT [(234,.ez)] [rR (M.G2 cX)] [(3,Ww cX)]
theorem Wx(cX:(List M.aa)->Option ((List Int)))(iW:aj (lG cX)):aK (G3 cX):=aO ak _ (af (ao0 cX iW) an)
theorem ao1(cX:(List M.aa)->Option ((List Int)))(iW:aj (lG cX)):bp (G3 cX) (bm (bw Tryz.f197) 0) (Ww cX):=bB (cx:=G3 cX) (sh:=GZ) (run:=fun n x=>M.rV cX x.1.1 n x.1.2.2.1 x.2.2.1) (bq:=GX) ak (Wx cX iW) aW (aE (by kernel_rfl)) (fun _=>rfl) (fun m x=>by kernel_rfl) (af ⟨bC,fun _ _ _=>rfl⟩ an) false ae
theorem ao2(cX:(List M.aa)->Option ((List Int)))(iW:aj (lG cX)):aj (lG (M.G4 cX)):=fb (cx:=G3 cX) (fz:=true) ak (Wx cX iW) aW ⟨Tryz.func197,by kernel_rfl⟩ (aH (bH 1 (by kernel_rfl) (bI (.mk (by kernel_rfl) (ao1 cX iW))))) ⟨rT,fun x=>x.1.1⟩ (fun x=>rfl) (fun x=>by kernel_rfl)
theorem Wy:∀n,aj (lG (M.qb n))|0=>ic fun _=>rfl|n+1=>ao2 (M.qb n) (Wy n)
theorem ao3:aj (lG (M.Bt)):=Wy ae
def WA(m:(List M.aa)->Option ((List Int))):az K:={f:=160,sh:=lF,R:=(List Int),run:=fun x=>m x.1.1,dflt:=default,out:=fun r=>(Sh.enc D (.ah U.i64) r,aU.encs D [] ())}
def MJ:Cx K:=aT [(196,.plain),(197,.ez)] [We M.ya,lG M.Bt] []
theorem WB:aK MJ:=aO ak _ (af aoU (af ao3 an))
theorem ao4:aj (WA (M.G5)):=aL (cx:=MJ) true WB Tryz.func160 (aH (aE (by kernel_rfl))) ⟨rT,fun x=>x.1.1⟩ (fun x=>by kernel_rfl)
def WC(m:(List M.aa)->Option Bool):az K:=cB 161 lF (fun x=>m x.1.1)
theorem ao5:aj (WC (M.G6)):=aL (cx:=MJ) true WB Tryz.func161 (aH (aE (by kernel_rfl))) ⟨zs0,fun x=>x.1.1⟩ (fun x=>by kernel_rfl)
def MK(m:M.av->Option (Int×Bool)):az K:={f:=130,sh:=lC,R:=Int×Bool,run:=fun x=>m x.1.1,dflt:=default,out:=fun r=>(Sh.enc D (.bT [.int .i64,.bool]) (r.1,(r.2,())),aU.encs D [] ())}
def WE:Cx K:=aT [(159,.ez),(160,.ez),(161,.plain)] [V7 M.Bn,WA M.G5,WC M.G6] []
theorem ao6:aK WE:=aO ak _ (af aoO (af ao4 (af ao5 an)))
theorem WG:aj (MK (M.rW)):=aL (cx:=WE) true ao6 Tryz.func130 (aH (aE (by kernel_rfl))) ⟨AA,fun x=>(x.1.1.1,x.1.1.2.1)⟩ (fun x=>by kernel_rfl)
def WH(y:Bool⊕(M.aX×Int×Int)){R:Type}(k:KT R):R:=match y with|.inl a0=>kk k Ex.ret WI (((),((),((),(a0,())))),())|.inr a1=>kk k (Ex.exit 2) WJ ((a1.1,(a1.2.1,(a1.2.2,((),())))),())
def WL:List (cF K ((Bool)⊕(M.aX×Int×Int))):=[⟨Ex.ret,WI,fun x=>.inl x.1.2.2.2.1⟩,⟨(Ex.exit 2),WJ,fun x=>.inr ((x.1.1,x.1.2.1,x.1.2.2.1))⟩]
def WM:bo K:=bA D false 138 0 [0,3,4,5] [0,3,4,2] rX (fun x=>M.nW x.1.1 x.1.2.2.1 ae x.1.2.1 x.1.2.2.2.1) WH
def WN(y:Bool⊕(M.aX×Int)){R:Type}(k:KT R):R:=match y with|.inl a0=>kk k Ex.ret xC (((),((),(a0,()))),())|.inr a1=>kk k (Ex.exit 0) WO ((a1.1,(a1.2,((),()))),())
def WQ:List (cF K ((Bool)⊕(M.aX×Int))):=[⟨Ex.ret,xC,fun x=>.inl x.1.2.2.1⟩,⟨(Ex.exit 0),WO,fun x=>.inr ((x.1.1,x.1.2.1))⟩]
def WR:bo K:=bA D false 138 0 [0,3,4] [0,3,2] rY (fun x=>M.nY ae x.1.1 x.1.2.1 x.1.2.2.1) WN
def WS(m:M.aX->Option Bool):az K:=cB 94 Bv (fun x=>m x.1.1)
def yc:Cx K:=aT [(126,.plain),(129,.plain),(130,.plain)] [Av M.jr,VX M.Aa,MK M.rW] [(6,WM),(3,WR)]
theorem ML:aK yc:=aO ak _ (af FD (af aoG (af WG an)))
theorem ao7:bp yc (bm (bm (bw Tryz.f94) 0) 0) WM:=bB (cx:=yc) (sh:=rX) (run:=fun n x=>M.nW x.1.1 x.1.2.2.1 n x.1.2.1 x.1.2.2.2.1) (bq:=WL) ak ML aW (aE (by kernel_rfl)) (fun _=>rfl) (fun m x=>by kernel_rfl) (af ⟨cm,fun _ _ _=>rfl⟩ (af ⟨bC,fun _ _ _=>rfl⟩ an)) false ae
theorem ao8:bp yc (bm (bw Tryz.f94) 0) WR:=bB (cx:=yc) (sh:=rY) (run:=fun n x=>M.nY n x.1.1 x.1.2.1 x.1.2.2.1) (bq:=WQ) ak ML aW (bH 1 (by kernel_rfl) (bI (.mk (by kernel_rfl) ao7))) (fun _=>rfl) (fun m x=>by kernel_rfl) (af ⟨cm,fun _ _ _=>rfl⟩ (af ⟨bC,fun _ _ _=>rfl⟩ an)) false ae
theorem ao9:aj (WS (M.Ad)):=aL (cx:=yc) true ML Tryz.func94 (aH (bH 1 (by kernel_rfl) (bI (.mk (by kernel_rfl) ao8)))) ⟨zs0,fun x=>x.1.1⟩ (fun x=>by kernel_rfl)
def WT:bo K:=bA D false 22 1 [1,2,5] [4] GH (fun x=>M.ug x.1.1 x.2.1 ae x.1.2.2.1) ME
def MM(m:M.aR->(List UInt8)->Option Int):az K:=cI 131 GI (fun x=>m x.1.1 x.1.2.1)
def G7:Cx K:=aT [] [] [(2,WT)]
theorem WU:aK G7:=aO ak _ an
theorem apa:bp G7 (bm (bw Tryz.f131) 0) WT:=bB (cx:=G7) (sh:=GH) (run:=fun n x=>M.ug x.1.1 x.2.1 n x.1.2.2.1) (bq:=MF) ak WU aW (aE (by kernel_rfl)) (fun _=>rfl) (fun m x=>by kernel_rfl) (af ⟨cm,fun _ _ _=>rfl⟩ (af ⟨bC,fun _ _ _=>rfl⟩ an)) false ae
theorem WV:aj (MM (M.uf)):=aL (cx:=G7) true WU Tryz.func131 (aH (bH 1 (by kernel_rfl) (bI (.mk (by kernel_rfl) apa)))) ⟨zs1,fun x=>x.1.1⟩ (fun x=>by kernel_rfl)
def WW:bo K:=bA D false 138 0 [0,3,4,5] [0,3,4,2] rX (fun x=>M.nZ x.1.1 x.1.2.2.1 ae x.1.2.1 x.1.2.2.2.1) WH
def WX:bo K:=bA D false 138 0 [0,3,4] [0,3,2] rY (fun x=>M.od ae x.1.1 x.1.2.1 x.1.2.2.1) WN
def WY(m:M.aX->Option Bool):az K:=cB 95 Bv (fun x=>m x.1.1)
def yd:Cx K:=aT [(126,.plain),(131,.plain),(130,.plain)] [Av M.jr,MM M.uf,MK M.rW] [(6,WW),(3,WX)]
theorem MN:aK yd:=aO ak _ (af FD (af WV (af WG an)))
theorem apb:bp yd (bm (bm (bw Tryz.f95) 0) 0) WW:=bB (cx:=yd) (sh:=rX) (run:=fun n x=>M.nZ x.1.1 x.1.2.2.1 n x.1.2.1 x.1.2.2.2.1) (bq:=WL) ak MN aW (aE (by kernel_rfl)) (fun _=>rfl) (fun m x=>by kernel_rfl) (af ⟨cm,fun _ _ _=>rfl⟩ (af ⟨bC,fun _ _ _=>rfl⟩ an)) false ae
theorem apc:bp yd (bm (bw Tryz.f95) 0) WX:=bB (cx:=yd) (sh:=rY) (run:=fun n x=>M.od n x.1.1 x.1.2.1 x.1.2.2.1) (bq:=WQ) ak MN aW (bH 1 (by kernel_rfl) (bI (.mk (by kernel_rfl) apb))) (fun _=>rfl) (fun m x=>by kernel_rfl) (af ⟨cm,fun _ _ _=>rfl⟩ (af ⟨bC,fun _ _ _=>rfl⟩ an)) false ae
theorem apd:aj (WY (M.Ae)):=aL (cx:=yd) true MN Tryz.func95 (aH (bH 1 (by kernel_rfl) (bI (.mk (by kernel_rfl) apc)))) ⟨zs0,fun x=>x.1.1⟩ (fun x=>by kernel_rfl)
def WZ:bo K:=bA D false 20 0 [0,1,5] [4] ⟨[.ah U.aQ,.str,.int .i64],[]⟩ (fun x=>M.uy x.1.1 x.1.2.1 ae x.1.2.2.1) iJ
def MO(m:(List M.ar)->(List UInt8)->Option Int):az K:=cI 98 ⟨[.ah U.aQ,.str],[]⟩ (fun x=>m x.1.1 x.1.2.1)
def G8:Cx K:=aT [(126,.plain)] [Av M.jr] [(2,WZ)]
theorem W0:aK G8:=aO ak _ (af FD an)
theorem ape:bp G8 (bm (bw Tryz.f98) 0) WZ:=bB (cx:=G8) (sh:=⟨[.ah U.aQ,.str,.int .i64],[]⟩) (run:=fun n x=>M.uy x.1.1 x.1.2.1 n x.1.2.2.1) (bq:=iK) ak W0 aW (aE (by kernel_rfl)) (fun _=>rfl) (fun m x=>by kernel_rfl) (af ⟨cm,fun _ _ _=>rfl⟩ (af ⟨bC,fun _ _ _=>rfl⟩ an)) false ae
theorem W4:aj (MO (M.ux)):=aL (cx:=G8) true W0 Tryz.func98 (aH (bH 1 (by kernel_rfl) (bI (.mk (by kernel_rfl) ape)))) ⟨zs1,fun x=>x.1.1⟩ (fun x=>by kernel_rfl)
def W5:bo K:=bA D false 34 0 [0,2,7,8] [6] W6 (fun x=>M.uz x.1.1 x.1.2.1 x.1.2.2.1 ae x.1.2.2.2.1) iU
def W7(m:(List M.ar)->(List UInt8)->(List UInt8)->Option Bool):az K:=cB 132 G9 (fun x=>m x.1.1 x.1.2.1 x.1.2.2.1)
def Ha:Cx K:=aT [(98,.plain)] [MO M.ux] [(5,W5)]
theorem W8:aK Ha:=aO ak _ (af W4 an)
theorem apf:bp Ha (bm (bw Tryz.f132) 0) W5:=bB (cx:=Ha) (sh:=W6) (run:=fun n x=>M.uz x.1.1 x.1.2.1 x.1.2.2.1 n x.1.2.2.2.1) (bq:=iV) ak W8 aW (aE (by kernel_rfl)) (fun _=>rfl) (fun m x=>by kernel_rfl) (af ⟨cm,fun _ _ _=>rfl⟩ (af ⟨bC,fun _ _ _=>rfl⟩ an)) false ae
theorem apg:aj (W7 (M.xz)):=aL (cx:=Ha) true W8 Tryz.func132 (aH (bH 1 (by kernel_rfl) (bI (.mk (by kernel_rfl) apf)))) ⟨zs0,fun x=>x.1.1⟩ (fun x=>by kernel_rfl)
def W9:bo K:=bA D false 99 0 [0,3] [2] He (fun x=>M.uB x.1.1 ae x.1.2.1) iU
def Xa(m:M.aX->Option Bool):az K:=cB 96 Bv (fun x=>m x.1.1)
def Hg:Cx K:=aT [(132,.plain),(131,.plain),(92,.plain)] [W7 M.xz,MM M.uf,pX M.pY] [(4,W9)]
theorem Xb:aK Hg:=aO ak _ (af apg (af WV (af rK an)))
theorem aph:bp Hg (bm (bw Tryz.f96) 0) W9:=bB (cx:=Hg) (sh:=He) (run:=fun n x=>M.uB x.1.1 n x.1.2.1) (bq:=iV) ak Xb aW (aE (by kernel_rfl)) (fun _=>rfl) (fun m x=>by kernel_rfl) (af ⟨cm,fun _ _ _=>rfl⟩ (af ⟨bC,fun _ _ _=>rfl⟩ an)) false ae
theorem api:aj (Xa (M.Am)):=aL (cx:=Hg) true Xb Tryz.func96 (aH (bH 1 (by kernel_rfl) (bI (.mk (by kernel_rfl) aph)))) ⟨zs0,fun x=>x.1.1⟩ (fun x=>by kernel_rfl)
def apj(y:M.aX×Int×Int){R:Type}(k:KT R):R:=match y with|a0=>kk k (Ex.exit 2) rY ((a0.1,(a0.2.1,(a0.2.2,()))),())
def apk:List (cF K (M.aX×Int×Int)):=[⟨(Ex.exit 2),rY,fun x=>(x.1.1,x.1.2.1,x.1.2.2.1)⟩]
def Xc:bo K:=bA D false 77 0 [0,3,4,5] [0,3,4] rX (fun x=>M.mQ x.1.1 x.1.2.1 ae x.1.2.2.1 x.1.2.2.2.1) apj
def apl(y:M.aX×Int×Int){R:Type}(k:KT R):R:=match y with|a0=>kk k (Ex.exit 4) rY ((a0.1,(a0.2.1,(a0.2.2,()))),())
def apm:List (cF K (M.aX×Int×Int)):=[⟨(Ex.exit 4),rY,fun x=>(x.1.1,x.1.2.1,x.1.2.2.1)⟩]
def Xd:bo K:=bA D false 77 0 [0,3,4,6] [0,3,4] rX (fun x=>M.mR x.1.1 x.1.2.1 ae x.1.2.2.1 x.1.2.2.2.1) apl
def Xe:bo K:=bA D false 77 0 [0,3] [2] He (fun x=>M.oj ae x.1.1 x.1.2.1) iU
def Xf(m:M.aX->Option Bool):az K:=cB 97 Bv (fun x=>m x.1.1)
def rZ:Cx K:=aT [] [] [(6,Xc),(11,Xd),(2,Xe)]
theorem Hh:aK rZ:=aO ak _ an
theorem apn:bp rZ (bm (bm (bw Tryz.f97) 0) 0) Xc:=bB (cx:=rZ) (sh:=rX) (run:=fun n x=>M.mQ x.1.1 x.1.2.1 n x.1.2.2.1 x.1.2.2.2.1) (bq:=apk) ak Hh aW (aE (by kernel_rfl)) (fun _=>rfl) (fun m x=>by kernel_rfl) (af ⟨bC,fun _ _ _=>rfl⟩ an) false ae
theorem apo:bp rZ (bm (bm (bw Tryz.f97) 0) 1) Xd:=bB (cx:=rZ) (sh:=rX) (run:=fun n x=>M.mR x.1.1 x.1.2.1 n x.1.2.2.1 x.1.2.2.2.1) (bq:=apm) ak Hh aW (aE (by kernel_rfl)) (fun _=>rfl) (fun m x=>by kernel_rfl) (af ⟨bC,fun _ _ _=>rfl⟩ an) false ae
theorem apq:bp rZ (bm (bw Tryz.f97) 0) Xe:=bB (cx:=rZ) (sh:=He) (run:=fun n x=>M.oj n x.1.1 x.1.2.1) (bq:=iV) ak Hh aW (bH 2 (by kernel_rfl) (lt_succ (bI (.mk (by kernel_rfl) apn)) (.mk (by kernel_rfl) apo))) (fun _=>rfl) (fun m x=>by kernel_rfl) (af ⟨cm,fun _ _ _=>rfl⟩ (af ⟨bC,fun _ _ _=>rfl⟩ an)) false ae
theorem apr:aj (Xf (M.Ao)):=aL (cx:=rZ) true Hh Tryz.func97 (aH (bH 1 (by kernel_rfl) (bI (.mk (by kernel_rfl) apq)))) ⟨zs0,fun x=>x.1.1⟩ (fun x=>by kernel_rfl)
def Xg(m:M.aX->Option ((List UInt8))):az K:=cS 57 Bv (fun x=>m x.1.1)
def Xh:Cx K:=aT [(89,.plain),(90,.plain),(91,.plain),(92,.plain),(93,.plain),(94,.plain),(95,.plain),(96,.plain),(97,.plain)] [ye M.jF,MP M.u0,SI M.xF,pX M.pY,VT M.Bm,WS M.Ad,WY M.Ae,Xa M.Am,Xf M.Ao] []
theorem aps:aK Xh:=aO ak _ (af By (af Xi (af amD (af rK (af aoE (af ao9 (af apd (af api (af apr an)))))))))
theorem apt:aj (Xg (M.Ap)):=aL (cx:=Xh) true aps Tryz.func57 (aH (aE (by kernel_rfl))) ⟨ib,fun x=>x.1.1⟩ (fun x=>by kernel_rfl)
def Xj(m:Int->Option Bool):az K:=cB 107 zs1 (fun x=>m x.1.1)
def Xk:Cx K:=aT [(109,.plain)] [mU M.mV] []
theorem apu:aK Xk:=aO ak _ (af ot an)
theorem apv:aj (Xj (M.Xl)):=aL (cx:=Xk) true apu Tryz.func107 (aH (aE (by kernel_rfl))) ⟨zs0,fun x=>x.1.1⟩ (fun x=>by kernel_rfl)
def Xm(m:M.aJ->Option Bool):az K:=cB 249 Bc (fun x=>m x.1.1)
def Xn:Cx K:=aT [(291,.plain),(109,.plain)] [Xo M.Bz,mU M.mV] []
theorem apw:aK Xn:=aO ak _ (af apx (af ot an))
theorem apy:aj (Xm (M.r0)):=aL (cx:=Xn) true apw Tryz.func249 (aH (aE (by kernel_rfl))) ⟨zs0,fun x=>x.1.1⟩ (fun x=>by kernel_rfl)
def Xp(m:M.aJ->Option Bool):az K:=cB 248 Bc (fun x=>m x.1.1)
def Xq:Cx K:=aT [(249,.plain)] [Xm M.r0] []
theorem apz:aK Xq:=aO ak _ (af apy an)
theorem apA:aj (Xp (M.BA)):=aL (cx:=Xq) true apz Tryz.func248 (aH (aE (by kernel_rfl))) ⟨zs0,fun x=>x.1.1⟩ (fun x=>by kernel_rfl)
def Xr:bo K:=bA D false 19 0 [0,1,7,8] [4] Xs (fun x=>M.u3 x.1.1 x.1.2.2.1 ae x.1.2.2.2.1) iJ
def Xt(m:(List M.aJ)->Option Int):az K:=cI 290 ⟨[.ah U.Ins,.fn 248 []],[]⟩ (fun x=>m x.1.1)
def Hj:Cx K:=aT [(248,.plain)] [Xp M.BA] [(2,Xr)]
theorem Xu:aK Hj:=aO ak _ (af apA an)
theorem apB:bp Hj (bm (bw Tryz.f290) 0) Xr:=bB (cx:=Hj) (sh:=Xs) (run:=fun n x=>M.u3 x.1.1 x.1.2.2.1 n x.1.2.2.2.1) (bq:=iK) ak Xu aW (aE (by kernel_rfl)) (fun _=>rfl) (fun m x=>by kernel_rfl) (af ⟨cm,fun _ _ _=>rfl⟩ (af ⟨bC,fun _ _ _=>rfl⟩ an)) false ae
theorem apC:aj (Xt (M.Hk)):=aL (cx:=Hj) true Xu Tryz.func290 (aH (bH 1 (by kernel_rfl) (bI (.mk (by kernel_rfl) apB)))) ⟨zs1,fun x=>x.1.1⟩ (fun x=>by kernel_rfl)
def Xv(m:(List M.aJ)->Option Bool):az K:=cB 247 ⟨[.ah U.Ins,.fn 248 []],[]⟩ (fun x=>m x.1.1)
def Xw:Cx K:=aT [(290,.plain)] [Xt M.Hk] []
theorem apD:aK Xw:=aO ak _ (af apC an)
theorem apE:aj (Xv (M.BB)):=aL (cx:=Xw) true apD Tryz.func247 (aH (aE (by kernel_rfl))) ⟨zs0,fun x=>x.1.1⟩ (fun x=>by kernel_rfl)
def Xx(m:M.aw->Option Bool):az K:=cB 211 Bd (fun x=>m x.1.1)
def Xy:Cx K:=aT [(109,.plain),(247,.plain)] [mU M.mV,Xv M.BB] []
theorem apF:aK Xy:=aO ak _ (af ot (af apE an))
theorem apG:aj (Xx (M.BC)):=aL (cx:=Xy) true apF Tryz.func211 (aH (aE (by kernel_rfl))) ⟨zs0,fun x=>x.1.1⟩ (fun x=>by kernel_rfl)
def Xz(m:M.aX->Option Bool):az K:=cB 22 sc (fun x=>m x.1.1)
def XA:Cx K:=aT [(57,.plain)] [Xg M.Ap] []
theorem apH:aK XA:=aO ak _ (af apt an)
theorem apI:aj (Xz (M.Ar)):=aL (cx:=XA) true apH Tryz.func22 (aH (aE (by kernel_rfl))) ⟨zs0,fun x=>x.1.1⟩ (fun x=>by kernel_rfl)
def XB(m:M.bk->M.bk->Option Bool):az K:=cB 75 ⟨[.el U.dA,.el U.dA],[]⟩ (fun x=>m x.1.1 x.1.2.1)
theorem apJ:aj (XB (M.BD)):=aL (cx:=dU) true dZ Tryz.func75 (aH (aE (by kernel_rfl))) ⟨zs0,fun x=>x.1.1⟩ (fun x=>by kernel_rfl)
def XC:bo K:=bA D false 27 0 [0,1,5] [4] XD (fun x=>M.u4 x.1.1 x.1.2.1 ae x.1.2.2.1) iU
def XE(m:(List M.bk)->(List M.bk)->Option Bool):az K:=cB 37 ⟨[.ah U.dA,.ah U.dA],[]⟩ (fun x=>m x.1.1 x.1.2.1)
def Hl:Cx K:=aT [(75,.plain)] [XB M.BD] [(4,XC)]
theorem XF:aK Hl:=aO ak _ (af apJ an)
theorem apK:bp Hl (bm (bw Tryz.f37) 0) XC:=bB (cx:=Hl) (sh:=XD) (run:=fun n x=>M.u4 x.1.1 x.1.2.1 n x.1.2.2.1) (bq:=iV) ak XF aW (aE (by kernel_rfl)) (fun _=>rfl) (fun m x=>by kernel_rfl) (af ⟨cm,fun _ _ _=>rfl⟩ (af ⟨bC,fun _ _ _=>rfl⟩ an)) false ae
theorem apL:aj (XE (M.BE)):=aL (cx:=Hl) true XF Tryz.func37 (aH (bH 1 (by kernel_rfl) (bI (.mk (by kernel_rfl) apK)))) ⟨zs0,fun x=>x.1.1⟩ (fun x=>by kernel_rfl)
def XG(m:M.bh->M.bh->Option Bool):az K:=cB 16 ⟨[.el U.Lower,.el U.Lower],[]⟩ (fun x=>m x.1.1 x.1.2.1)
theorem apM:aj (XG (M.BF)):=aL (cx:=dU) true dZ Tryz.func16 (aH (aE (by kernel_rfl))) ⟨zs0,fun x=>x.1.1⟩ (fun x=>by kernel_rfl)
def XH:bo K:=bA D false 27 0 [0,1,5] [4] XI (fun x=>M.u5 x.1.1 x.1.2.1 ae x.1.2.2.1) iU
def XJ(m:(List M.bh)->(List M.bh)->Option Bool):az K:=cB 38 ⟨[.ah U.Lower,.ah U.Lower],[]⟩ (fun x=>m x.1.1 x.1.2.1)
def Hm:Cx K:=aT [(16,.plain)] [XG M.BF] [(4,XH)]
theorem XK:aK Hm:=aO ak _ (af apM an)
theorem apN:bp Hm (bm (bw Tryz.f38) 0) XH:=bB (cx:=Hm) (sh:=XI) (run:=fun n x=>M.u5 x.1.1 x.1.2.1 n x.1.2.2.1) (bq:=iV) ak XK aW (aE (by kernel_rfl)) (fun _=>rfl) (fun m x=>by kernel_rfl) (af ⟨cm,fun _ _ _=>rfl⟩ (af ⟨bC,fun _ _ _=>rfl⟩ an)) false ae
theorem apO:aj (XJ (M.BG)):=aL (cx:=Hm) true XK Tryz.func38 (aH (bH 1 (by kernel_rfl) (bI (.mk (by kernel_rfl) apN)))) ⟨zs0,fun x=>x.1.1⟩ (fun x=>by kernel_rfl)
def XL(m:M.bg->M.bg->Option Bool):az K:=cB 76 ⟨[.el U.Builtin,.el U.Builtin],[]⟩ (fun x=>m x.1.1 x.1.2.1)
theorem apP:aj (XL (M.BH)):=aL (cx:=dU) true dZ Tryz.func76 (aH (aE (by kernel_rfl))) ⟨zs0,fun x=>x.1.1⟩ (fun x=>by kernel_rfl)
def XM:bo K:=bA D false 27 0 [0,1,5] [4] XN (fun x=>M.u6 x.1.1 x.1.2.1 ae x.1.2.2.1) iU
def XO(m:(List M.bg)->(List M.bg)->Option Bool):az K:=cB 39 ⟨[.ah U.Builtin,.ah U.Builtin],[]⟩ (fun x=>m x.1.1 x.1.2.1)
def Hq:Cx K:=aT [(76,.plain)] [XL M.BH] [(4,XM)]
theorem XP:aK Hq:=aO ak _ (af apP an)
theorem apQ:bp Hq (bm (bw Tryz.f39) 0) XM:=bB (cx:=Hq) (sh:=XN) (run:=fun n x=>M.u6 x.1.1 x.1.2.1 n x.1.2.2.1) (bq:=iV) ak XP aW (aE (by kernel_rfl)) (fun _=>rfl) (fun m x=>by kernel_rfl) (af ⟨cm,fun _ _ _=>rfl⟩ (af ⟨bC,fun _ _ _=>rfl⟩ an)) false ae
theorem apR:aj (XO (M.BI)):=aL (cx:=Hq) true XP Tryz.func39 (aH (bH 1 (by kernel_rfl) (bI (.mk (by kernel_rfl) apQ)))) ⟨zs0,fun x=>x.1.1⟩ (fun x=>by kernel_rfl)
def XQ(m:M.aX->M.aX->Option Bool):az K:=cB 10 ⟨[.el U.eL,.el U.eL],[]⟩ (fun x=>m x.1.1 x.1.2.1)
def XR:Cx K:=aT [(35,.plain),(36,.plain),(37,.plain),(38,.plain),(39,.plain)] [UT M.xP,XS M.BJ,XE M.BE,XJ M.BG,XO M.BI] []
theorem apS:aK XR:=aO ak _ (af anT (af apT (af apL (af apO (af apR an)))))
theorem apU:aj (XQ (M.BK)):=aL (cx:=XR) true apS Tryz.func10 (aH (aE (by kernel_rfl))) ⟨zs0,fun x=>x.1.1⟩ (fun x=>by kernel_rfl)
def apV(y:Bool⊕(M.aR×(List (List UInt8))×(List (List UInt8)))){R:Type}(k:KT R):R:=match y with|.inl a0=>kk k Ex.ret XT (((),((),((),(a0,())))),((),((),((),((),((),()))))))|.inr a1=>kk k (Ex.exit 0) XU (((),((),((),((),())))),(a1.1,((),((),(a1.2.1,(a1.2.2,()))))))
def apW:List (cF K ((Bool)⊕(M.aR×(List (List UInt8))×(List (List UInt8))))):=[⟨Ex.ret,XT,fun x=>.inl x.1.2.2.2.1⟩,⟨(Ex.exit 0),XU,fun x=>.inr ((x.2.1,x.2.2.2.2.1,x.2.2.2.2.2.1))⟩]
def XV:bo K:=bA D false 66 3 [1,3,4,28,29,30] [1,3,4,2] XW (fun x=>M.sd x.1.2.2.2.1 x.1.2.2.2.2.1 x.2.1 x.2.2.2.2.2.1 ae x.1.2.2.2.2.2.1 x.2.2.2.2.1) apV
def apX(y:Bool⊕((List (List UInt8))×(List (List UInt8)))){R:Type}(k:KT R):R:=match y with|.inl a0=>kk k Ex.ret XX (((),((),(a0,()))),((),((),((),((),())))))|.inr a1=>kk k (Ex.exit 2) XY (((),((),((),()))),((),((),(a1.1,(a1.2,())))))
def apY:List (cF K ((Bool)⊕((List (List UInt8))×(List (List UInt8))))):=[⟨Ex.ret,XX,fun x=>.inl x.1.2.2.1⟩,⟨(Ex.exit 2),XY,fun x=>.inr ((x.2.2.2.1,x.2.2.2.2.1))⟩]
def XZ:bo K:=bA D false 66 2 [3,4,45,46,47] [3,4,2] X0 (fun x=>M.se x.1.2.2.1 x.1.2.2.2.1 x.2.2.2.1 ae x.1.2.2.2.2.1 x.2.2.2.2.1) apX
def X1:bo K:=bA D false 32 0 [0,5,6] [0,2] Hr (fun x=>M.u7 x.1.1 x.1.2.1 ae x.1.2.2.1) MQ
def X2(m:(List UInt8)->Option Bool):az K:=cB 251 ib (fun x=>m x.1.1)
def Ht:Cx K:=aT [(292,.plain),(293,.plain),(294,.plain),(295,.plain),(109,.plain)] [X3 M.X4,X5 M.X6,MR M.strings_IndexByte,X7 M.X8,mU M.mV] [(2,X1)]
theorem X9:aK Ht:=aO ak _ (af apZ (af ap0 (af ap1 (af ap2 (af ot an)))))
theorem ap3:bp Ht (bm (bw Tryz.f251) 0) X1:=bB (cx:=Ht) (sh:=Hr) (run:=fun n x=>M.u7 x.1.1 x.1.2.1 n x.1.2.2.1) (bq:=MS) ak X9 aW (aE (by kernel_rfl)) (fun _=>rfl) (fun m x=>by kernel_rfl) (af ⟨cm,fun _ _ _=>rfl⟩ (af ⟨bC,fun _ _ _=>rfl⟩ an)) false ae
theorem ap4:aj (X2 (M.BL)):=aL (cx:=Ht) true X9 Tryz.func251 (aH (bH 1 (by kernel_rfl) (bI (.mk (by kernel_rfl) ap3)))) ⟨zs0,fun x=>x.1.1⟩ (fun x=>by kernel_rfl)
def Ya(m:(List UInt8)->Option Bool):az K:=cB 250 ib (fun x=>m x.1.1)
def Yb:Cx K:=aT [(251,.plain)] [X2 M.BL] []
theorem ap5:aK Yb:=aO ak _ (af ap4 an)
theorem ap6:aj (Ya (M.BM)):=aL (cx:=Yb) true ap5 Tryz.func250 (aH (aE (by kernel_rfl))) ⟨zs0,fun x=>x.1.1⟩ (fun x=>by kernel_rfl)
def Yc:bo K:=bA D false 19 0 [0,1,7,8] [4] Yd (fun x=>M.u9 x.1.1 x.1.2.2.1 ae x.1.2.2.2.1) iJ
def Ye(m:(List (List UInt8))->Option Int):az K:=cI 203 ⟨[.ah U.str,.fn 250 []],[]⟩ (fun x=>m x.1.1)
def Hu:Cx K:=aT [(250,.plain)] [Ya M.BM] [(2,Yc)]
theorem Yf:aK Hu:=aO ak _ (af ap6 an)
theorem ap7:bp Hu (bm (bw Tryz.f203) 0) Yc:=bB (cx:=Hu) (sh:=Yd) (run:=fun n x=>M.u9 x.1.1 x.1.2.2.1 n x.1.2.2.2.1) (bq:=iK) ak Yf aW (aE (by kernel_rfl)) (fun _=>rfl) (fun m x=>by kernel_rfl) (af ⟨cm,fun _ _ _=>rfl⟩ (af ⟨bC,fun _ _ _=>rfl⟩ an)) false ae
theorem ap8:aj (Ye (M.Hw)):=aL (cx:=Hu) true Yf Tryz.func203 (aH (bH 1 (by kernel_rfl) (bI (.mk (by kernel_rfl) ap7)))) ⟨zs1,fun x=>x.1.1⟩ (fun x=>by kernel_rfl)
def Yg(m:(List (List UInt8))->Option Bool):az K:=cB 166 ⟨[.ah U.str,.fn 250 []],[]⟩ (fun x=>m x.1.1)
def Yh:Cx K:=aT [(203,.plain)] [Ye M.Hw] []
theorem ap9:aK Yh:=aO ak _ (af ap8 an)
theorem aqa:aj (Yg (M.BN)):=aL (cx:=Yh) true ap9 Tryz.func166 (aH (aE (by kernel_rfl))) ⟨zs0,fun x=>x.1.1⟩ (fun x=>by kernel_rfl)
def Yi(m:(List (List UInt8))->Option Bool):az K:=cB 212 pS (fun x=>m x.1.1)
def Yj:Cx K:=aT [(148,.plain),(166,.plain)] [xJ M.kM,Yg M.BN] []
theorem aqb:aK Yj:=aO ak _ (af FX (af aqa an))
theorem aqc:aj (Yi (M.yf)):=aL (cx:=Yj) true aqb Tryz.func212 (aH (aE (by kernel_rfl))) ⟨zs0,fun x=>x.1.1⟩ (fun x=>by kernel_rfl)
def Hy(m:M.aR->Option Bool):az K:=cB 176 pZ (fun x=>m x.1.1)
def yg:Cx K:=aT [(109,.plain),(211,.plain),(212,.plain)] [mU M.mV,Xx M.BC,Yi M.yf] [(5,XV),(12,XZ)]
theorem MU:aK yg:=aO ak _ (af ot (af apG (af aqc an)))
theorem aqd:bp yg (bm (bw Tryz.f176) 0) XV:=bB (cx:=yg) (sh:=XW) (run:=fun n x=>M.sd x.1.2.2.2.1 x.1.2.2.2.2.1 x.2.1 x.2.2.2.2.2.1 n x.1.2.2.2.2.2.1 x.2.2.2.2.1) (bq:=apW) ak MU aW (aE (by kernel_rfl)) (fun _=>rfl) (fun m x=>by kernel_rfl) (af ⟨cm,fun _ _ _=>rfl⟩ (af ⟨bC,fun _ _ _=>rfl⟩ an)) false ae
theorem aqe:bp yg (bm (bw Tryz.f176) 1) XZ:=bB (cx:=yg) (sh:=X0) (run:=fun n x=>M.se x.1.2.2.1 x.1.2.2.2.1 x.2.2.2.1 n x.1.2.2.2.2.1 x.2.2.2.2.1) (bq:=apY) ak MU aW (aE (by kernel_rfl)) (fun _=>rfl) (fun m x=>by kernel_rfl) (af ⟨cm,fun _ _ _=>rfl⟩ (af ⟨bC,fun _ _ _=>rfl⟩ an)) false ae
theorem MV:aj (Hy (M.qc)):=aL (cx:=yg) true MU Tryz.func176 (aH (bH 2 (by kernel_rfl) (lt_succ (bI (.mk (by kernel_rfl) aqd)) (.mk (by kernel_rfl) aqe)))) ⟨zs0,fun x=>x.1.1⟩ (fun x=>by kernel_rfl)
def Yk:bo K:=bA D false 30 1 [1,12,13] [2,3,4] Yl (fun x=>M.sf x.1.2.1 x.2.1 ae x.1.2.2.1) VJ
def Ym(m:M.aR->Option (Int×Int×Int)):az K:={f:=177,sh:=pZ,R:=Int×Int×Int,run:=fun x=>m x.1.1,dflt:=default,out:=fun r=>(Sh.enc D (.bT [.int .i64,.int .i64,.int .i64]) (r.1,(r.2.1,(r.2.2,()))),aU.encs D [] ())}
def Hz:Cx K:=aT [(213,.plain),(214,.fresh)] [MW M.MX,Yn M.BO] [(2,Yk)]
theorem Yo:aK Hz:=aO ak _ (af Yp (af aqf an))
theorem aqg:bp Hz (bm (bw Tryz.f177) 0) Yk:=bB (cx:=Hz) (sh:=Yl) (run:=fun n x=>M.sf x.1.2.1 x.2.1 n x.1.2.2.1) (bq:=VM) ak Yo aW (aE (by kernel_rfl)) (fun _=>rfl) (fun m x=>by kernel_rfl) (af ⟨cm,fun _ _ _=>rfl⟩ (af ⟨bC,fun _ _ _=>rfl⟩ an)) false ae
theorem aqh:aj (Ym (M.BP)):=aL (cx:=Hz) true Yo Tryz.func177 (aH (bH 1 (by kernel_rfl) (bI (.mk (by kernel_rfl) aqg)))) ⟨MD,fun x=>(x.1.1.1,x.1.1.2.1,x.1.1.2.2.1)⟩ (fun x=>by kernel_rfl)
def Yq(m:M.aR->Option (Int×Int×Int)):az K:={f:=142,sh:=pZ,R:=Int×Int×Int,run:=fun x=>m x.1.1,dflt:=default,out:=fun r=>(Sh.enc D (.bT [.int .i64,.int .i64,.int .i64]) (r.1,(r.2.1,(r.2.2,()))),aU.encs D [] ())}
def Yr:Cx K:=aT [(176,.plain),(177,.plain)] [Hy M.qc,Ym M.BP] []
theorem aqi:aK Yr:=aO ak _ (af MV (af aqh an))
theorem aqj:aj (Yq (M.BQ)):=aL (cx:=Yr) true aqi Tryz.func142 (aH (aE (by kernel_rfl))) ⟨MD,fun x=>(x.1.1.1,x.1.1.2.1,x.1.1.2.2.1)⟩ (fun x=>by kernel_rfl)
def Ys(m:M.aR->Option Bool):az K:=cB 108 pZ (fun x=>m x.1.1)
def Yt:Cx K:=aT [(142,.plain)] [Yq M.BQ] []
theorem aqk:aK Yt:=aO ak _ (af aqj an)
theorem aql:aj (Ys (M.BR)):=aL (cx:=Yt) true aqk Tryz.func108 (aH (aE (by kernel_rfl))) ⟨zs0,fun x=>x.1.1⟩ (fun x=>by kernel_rfl)
def aqm(y:(List M.ar)×Int×Int×(List M.cO)){R:Type}(k:KT R):R:=match y with|a0=>kk k (Ex.exit 2) Yu (((),(a0.1,(a0.2.1,(a0.2.2.1,())))),((),((),(a0.2.2.2,()))))
def aqn:List (cF K ((List M.ar)×Int×Int×(List M.cO))):=[⟨(Ex.exit 2),Yu,fun x=>(x.1.2.1,x.1.2.2.1,x.1.2.2.2.1,x.2.2.2.1)⟩]
def Yv:bo K:=bA D false 35 2 [3,5,9,10,11,16,17,18] [3,9,10,11] Yw (fun x=>M.rj x.1.2.2.1 x.1.2.2.2.1 x.1.2.2.2.2.1 x.1.2.2.2.2.2.1 x.1.2.2.2.2.2.2.1 x.2.2.1 ae x.1.2.2.2.2.2.2.2.1 x.2.2.2.1) aqm
def aqo(y:(List M.cO)){R:Type}(k:KT R):R:=match y with|a0=>kk k (Ex.exit 0) ⟨[.own 1],[.dead,.arr U.bound]⟩ (((),()),((),(a0,())))
def aqp:List (cF K ((List M.cO))):=[⟨(Ex.exit 0),⟨[.own 1],[.dead,.arr U.bound]⟩,fun x=>x.2.2.1⟩]
def Yx:bo K:=bA D false 35 1 [3,9,10,11] [3] Yy (fun x=>M.oe ae x.1.2.1 x.1.2.2.1 x.1.2.2.2.1 x.2.2.1) aqo
def MY(m:(List M.ar)->Option ((List M.cO))):az K:={f:=143,sh:=FK,R:=(List M.cO),run:=fun x=>m x.1.1,dflt:=default,out:=fun r=>(Sh.enc D (.ah U.bound) r,aU.encs D [] ())}
def yh:Cx K:=aT [(140,.plain)] [Gi M.mi] [(6,Yv),(3,Yx)]
theorem MZ:aK yh:=aO ak _ (af Mc an)
theorem aqr:bp yh (bm (bm (bw Tryz.f143) 0) 0) Yv:=bB (cx:=yh) (sh:=Yw) (run:=fun n x=>M.rj x.1.2.2.1 x.1.2.2.2.1 x.1.2.2.2.2.1 x.1.2.2.2.2.2.1 x.1.2.2.2.2.2.2.1 x.2.2.1 n x.1.2.2.2.2.2.2.2.1 x.2.2.2.1) (bq:=aqn) ak MZ aW (aE (by kernel_rfl)) (fun _=>rfl) (fun m x=>by kernel_rfl) (af ⟨bC,fun _ _ _=>rfl⟩ an) false ae
theorem aqs:bp yh (bm (bw Tryz.f143) 0) Yx:=bB (cx:=yh) (sh:=Yy) (run:=fun n x=>M.oe n x.1.2.1 x.1.2.2.1 x.1.2.2.2.1 x.2.2.1) (bq:=aqp) ak MZ aW (bH 1 (by kernel_rfl) (bI (.mk (by kernel_rfl) aqr))) (fun _=>rfl) (fun m x=>by kernel_rfl) (af ⟨bC,fun _ _ _=>rfl⟩ an) false ae
theorem Yz:aj (MY (M.um)):=aL (cx:=yh) true MZ Tryz.func143 (aH (bH 1 (by kernel_rfl) (bI (.mk (by kernel_rfl) aqs)))) ⟨⟨[.ah U.bound],[]⟩,fun x=>x.1.1⟩ (fun x=>by kernel_rfl)
def YA(m:M.aw->(List UInt8)->Option Bool):az K:=cB 179 ⟨[.el U.Core,.rp U.str 0],[]⟩ (fun x=>m x.1.1 x.1.2.1)
theorem aqt:aj (YA (M.YB)):=aL (cx:=dU) true dZ Tryz.func179 (aH (aE (by kernel_rfl))) ⟨zs0,fun x=>x.1.1⟩ (fun x=>by kernel_rfl)
def YC:bo K:=bA D false 19 0 [0,1,7,8] [4] YD (fun x=>M.uh x.1.1 x.1.2.1.1 x.1.2.2.1 ae x.1.2.2.2.1) iJ
def YE(m:(List M.aw)->(List UInt8)->Option Int):az K:=cI 178 ⟨[.ah U.Core,.fn 179 [.rp U.str 0]],[]⟩ (fun x=>m x.1.1 x.1.2.1.1)
def HA:Cx K:=aT [(179,.plain)] [YA M.YB] [(2,YC)]
theorem YF:aK HA:=aO ak _ (af aqt an)
theorem aqu:bp HA (bm (bw Tryz.f178) 0) YC:=bB (cx:=HA) (sh:=YD) (run:=fun n x=>M.uh x.1.1 x.1.2.1.1 x.1.2.2.1 n x.1.2.2.2.1) (bq:=iK) ak YF aW (aE (by kernel_rfl)) (fun _=>rfl) (fun m x=>by kernel_rfl) (af ⟨cm,fun _ _ _=>rfl⟩ (af ⟨bC,fun _ _ _=>rfl⟩ an)) false ae
theorem aqv:aj (YE (M.Fz)):=aL (cx:=HA) true YF Tryz.func178 (aH (bH 1 (by kernel_rfl) (bI (.mk (by kernel_rfl) aqu)))) ⟨zs1,fun x=>x.1.1⟩ (fun x=>by kernel_rfl)
def YG(m:M.aR->(List UInt8)->Option (Int×Bool)):az K:={f:=144,sh:=GI,R:=Int×Bool,run:=fun x=>m x.1.1 x.1.2.1,dflt:=default,out:=fun r=>(Sh.enc D (.bT [.int .i64,.bool]) (r.1,(r.2,())),aU.encs D [] ())}
def YH:Cx K:=aT [(178,.plain),(176,.plain)] [YE M.Fz,Hy M.qc] []
theorem aqw:aK YH:=aO ak _ (af aqv (af MV an))
theorem aqx:aj (YG (M.Af)):=aL (cx:=YH) true aqw Tryz.func144 (aH (aE (by kernel_rfl))) ⟨AA,fun x=>(x.1.1.1,x.1.1.2.1)⟩ (fun x=>by kernel_rfl)
def kN(m:(List M.aa)->Option ((List Int))):az K:={f:=216,sh:=lF,R:=(List Int),run:=fun x=>m x.1.1,dflt:=default,out:=fun r=>(Sh.enc D (.ah U.i64) r,aU.encs D [] ())}
def YI(m:M.aa->Option ((List M.aa))):az K:={f:=303,sh:=iv,R:=(List M.aa),run:=fun x=>m x.1.1,dflt:=default,out:=fun r=>(Sh.enc D (.ah U.Type) r,aU.encs D [] ())}
theorem aqy:aj (YI (M.HB)):=aL (cx:=dU) true dZ Tryz.func303 (aH (aE (by kernel_rfl))) ⟨lF,fun x=>x.1.1⟩ (fun x=>by kernel_rfl)
def sg(m:M.aa->Option ((List Int))):az K:={f:=257,sh:=iv,R:=(List Int),run:=fun x=>m x.1.1,dflt:=default,out:=fun r=>(Sh.enc D (.ah U.i64) r,aU.encs D [] ())}
def YJ:bo K:=bA D false 47 1 [0,1,5,13,14] [5] YK (fun x=>M.si x.1.1 x.1.2.1 x.1.2.2.2.1 ae x.1.2.2.2.2.1 x.2.2.1) GU
def YL(m:(List Int)->(List Int)->Option ((List Int))):az K:={f:=304,sh:=⟨[.ah U.i64,.ah U.i64],[]⟩,R:=(List Int),run:=fun x=>m x.1.1 x.1.2.1,dflt:=default,out:=fun r=>(Sh.enc D (.own 0) (),aU.encs D [.arr U.i64] (r,()))}
def HC:Cx K:={dc with mode:=cV .plain [],eJ:=[[some U.i64]],call:=callOf D [],loop:=cP [(3,YJ)]}
theorem YM:aK HC:=aO ak _ an
theorem aqz:bp HC (bm (bw Tryz.f304) 0) YJ:=bB (cx:=HC) (sh:=YK) (run:=fun n x=>M.si x.1.1 x.1.2.1 x.1.2.2.2.1 n x.1.2.2.2.2.1 x.2.2.1) (bq:=GX) ak YM aW (aE (by kernel_rfl)) (fun _=>rfl) (fun m x=>by kernel_rfl) (af ⟨bC,fun _ _ _=>rfl⟩ an) false ae
theorem aqA:aj (YL (M.BU)):=aL (cx:=HC) false YM Tryz.func304 (aH (bH 1 (by kernel_rfl) (bI (.mk (by kernel_rfl) aqz)))) ⟨MI,fun x=>x.2.1⟩ (fun x=>by kernel_rfl)
def YN(fR:M.aa->Option ((List Int))):bo K:=bA D false 45 1 [3,30,31,32] [3] HD (fun x=>M.sj fR x.1.2.1 x.1.2.2.1 ae x.1.2.2.2.1 x.2.2.1) Wp
def HE(cY:(List M.aa)->Option ((List Int)))(fR:M.aa->Option ((List Int))):Cx K:=aT [(216,.ez),(303,.ez),(257,.ez),(304,.fresh)] [kN cY,YI M.HB,sg fR,YL M.BU] [(17,YN fR)]
theorem YO(cY:(List M.aa)->Option ((List Int)))(iY:aj (kN cY))(fR:M.aa->Option ((List Int)))(yi:aj (sg fR)):aK (HE cY fR):=aO ak _ (af iY (af aqy (af yi (af aqA an))))
theorem aqB(cY:(List M.aa)->Option ((List Int)))(iY:aj (kN cY))(fR:M.aa->Option ((List Int)))(yi:aj (sg fR)):bp (HE cY fR) (bm (bw Tryz.f257) 0) (YN fR):=bB (cx:=HE cY fR) (sh:=HD) (run:=fun n x=>M.sj fR x.1.2.1 x.1.2.2.1 n x.1.2.2.2.1 x.2.2.1) (bq:=Wq) ak (YO cY iY fR yi) aW (aE (by kernel_rfl)) (fun _=>rfl) (fun m x=>by kernel_rfl) (af ⟨bC,fun _ _ _=>rfl⟩ an) false ae
theorem aqC(cY:(List M.aa)->Option ((List Int)))(iY:aj (kN cY))(fR:M.aa->Option ((List Int)))(yi:aj (sg fR)):aj (sg (M.HG cY fR)):=fb (cx:=HE cY fR) (fz:=true) ak (YO cY iY fR yi) aW ⟨Tryz.func257,by kernel_rfl⟩ (aH (bH 1 (by kernel_rfl) (bI (.mk (by kernel_rfl) (aqB cY iY fR yi))))) ⟨rT,fun x=>x.1.1⟩ (fun x=>rfl) (fun x=>by kernel_rfl)
theorem YP(cY:(List M.aa)->Option ((List Int)))(iY:aj (kN cY)):∀n,aj (sg (M.sk cY n))|0=>ic fun _=>rfl|n+1=>aqC cY iY (M.sk cY n) (YP cY iY n)
theorem aqD(cY:(List M.aa)->Option ((List Int)))(iY:aj (kN cY)):aj (sg (M.HH cY)):=YP cY iY ae
def YQ(cY:(List M.aa)->Option ((List Int))):bo K:=bA D false 19 1 [3,7,8,9] [3] HD (fun x=>M.sn cY x.1.2.1 x.1.2.2.1 ae x.1.2.2.2.1 x.2.2.1) GU
def HJ(cY:(List M.aa)->Option ((List Int))):Cx K:=aT [(257,.ez)] [sg (M.HH cY)] [(3,YQ cY)]
theorem YR(cY:(List M.aa)->Option ((List Int)))(iY:aj (kN cY)):aK (HJ cY):=aO ak _ (af (aqD cY iY) an)
theorem aqE(cY:(List M.aa)->Option ((List Int)))(iY:aj (kN cY)):bp (HJ cY) (bm (bw Tryz.f216) 0) (YQ cY):=bB (cx:=HJ cY) (sh:=HD) (run:=fun n x=>M.sn cY x.1.2.1 x.1.2.2.1 n x.1.2.2.2.1 x.2.2.1) (bq:=GX) ak (YR cY iY) aW (aE (by kernel_rfl)) (fun _=>rfl) (fun m x=>by kernel_rfl) (af ⟨bC,fun _ _ _=>rfl⟩ an) false ae
theorem aqF(cY:(List M.aa)->Option ((List Int)))(iY:aj (kN cY)):aj (kN (M.HK cY)):=fb (cx:=HJ cY) (fz:=true) ak (YR cY iY) aW ⟨Tryz.func216,by kernel_rfl⟩ (aH (bH 1 (by kernel_rfl) (bI (.mk (by kernel_rfl) (aqE cY iY))))) ⟨rT,fun x=>x.1.1⟩ (fun x=>rfl) (fun x=>by kernel_rfl)
theorem YS:∀n,aj (kN (M.qd n))|0=>ic fun _=>rfl|n+1=>aqF (M.qd n) (YS n)
theorem YT:aj (kN (M.yj)):=YS ae
def YU(m:(List M.aa)->Option Bool):az K:=cB 215 lF (fun x=>m x.1.1)
def YV:Cx K:=aT [(216,.ez)] [kN M.yj] []
theorem aqG:aK YV:=aO ak _ (af YT an)
theorem aqH:aj (YU (M.HL)):=aL (cx:=YV) true aqG Tryz.func215 (aH (aE (by kernel_rfl))) ⟨zs0,fun x=>x.1.1⟩ (fun x=>by kernel_rfl)
def YW(m:(List M.aa)->Option ((List Int))):az K:={f:=181,sh:=lF,R:=(List Int),run:=fun x=>m x.1.1,dflt:=default,out:=fun r=>(Sh.enc D (.ah U.i64) r,aU.encs D [] ())}
def YX:Cx K:=aT [(215,.plain),(216,.ez)] [YU M.HL,kN M.yj] []
theorem aqI:aK YX:=aO ak _ (af aqH (af YT an))
theorem aqJ:aj (YW (M.HM)):=aL (cx:=YX) true aqI Tryz.func181 (aH (aE (by kernel_rfl))) ⟨rT,fun x=>x.1.1⟩ (fun x=>by kernel_rfl)
def M1(m:M.av->Option (Int×Bool)):az K:={f:=145,sh:=lC,R:=Int×Bool,run:=fun x=>m x.1.1,dflt:=default,out:=fun r=>(Sh.enc D (.bT [.int .i64,.bool]) (r.1,(r.2,())),aU.encs D [] ())}
def YY:Cx K:=aT [(173,.plain),(181,.ez),(180,.plain),(182,.plain)] [az.YZ D (L9 M.pW),YW M.HM,HN M.HO,FV M.FW] []
theorem aqK:aK YY:=aO ak _ (af (az.aqL ak T9 rfl (fun _=>rfl)) (af aqJ (af M3 (af LZ an))))
theorem Y0:aj (M1 (M.oi)):=aL (cx:=YY) true aqK Tryz.func145 (aH (aE (by kernel_rfl))) ⟨AA,fun x=>(x.1.1.1,x.1.1.2.1)⟩ (fun x=>by kernel_rfl)
def Y1:bo K:=bA D false 84 1 [1,3,21,22,23] [2] Y2 (fun x=>M.uo x.1.2.1 x.1.2.2.1 x.1.2.2.2.1 x.2.1 ae x.1.2.2.2.2.1) rx
def Y3(m:M.aX->Option Bool):az K:=cB 110 sc (fun x=>m x.1.1)
def HQ:Cx K:=aT [(143,.ez),(144,.plain),(145,.plain)] [MY M.um,YG M.Af,M1 M.oi] [(5,Y1)]
theorem Y4:aK HQ:=aO ak _ (af Yz (af aqx (af Y0 an)))
theorem aqM:bp HQ (bm (bw Tryz.f110) 0) Y1:=bB (cx:=HQ) (sh:=Y2) (run:=fun n x=>M.uo x.1.2.1 x.1.2.2.1 x.1.2.2.2.1 x.2.1 n x.1.2.2.2.2.1) (bq:=ry) ak Y4 aW (aE (by kernel_rfl)) (fun _=>rfl) (fun m x=>by kernel_rfl) (af ⟨cm,fun _ _ _=>rfl⟩ (af ⟨bC,fun _ _ _=>rfl⟩ an)) false ae
theorem aqN:aj (Y3 (M.Ah)):=aL (cx:=HQ) true Y4 Tryz.func110 (aH (bH 1 (by kernel_rfl) (bI (.mk (by kernel_rfl) aqM)))) ⟨zs0,fun x=>x.1.1⟩ (fun x=>by kernel_rfl)
def Y5(m:M.aM->(List UInt8)->Option Bool):az K:=cB 184 ⟨[.el U.Import,.rp U.str 0],[]⟩ (fun x=>m x.1.1 x.1.2.1)
theorem aqO:aj (Y5 (M.Y6)):=aL (cx:=dU) true dZ Tryz.func184 (aH (aE (by kernel_rfl))) ⟨zs0,fun x=>x.1.1⟩ (fun x=>by kernel_rfl)
def Y7:bo K:=bA D false 19 0 [0,1,7,8] [4] Y8 (fun x=>M.uj x.1.1 x.1.2.1.1 x.1.2.2.1 ae x.1.2.2.2.1) iJ
def Y9(m:(List M.aM)->(List UInt8)->Option Int):az K:=cI 183 ⟨[.ah U.Import,.fn 184 [.rp U.str 0]],[]⟩ (fun x=>m x.1.1 x.1.2.1.1)
def HS:Cx K:=aT [(184,.plain)] [Y5 M.Y6] [(2,Y7)]
theorem Za:aK HS:=aO ak _ (af aqO an)
theorem aqP:bp HS (bm (bw Tryz.f183) 0) Y7:=bB (cx:=HS) (sh:=Y8) (run:=fun n x=>M.uj x.1.1 x.1.2.1.1 x.1.2.2.1 n x.1.2.2.2.1) (bq:=iK) ak Za aW (aE (by kernel_rfl)) (fun _=>rfl) (fun m x=>by kernel_rfl) (af ⟨cm,fun _ _ _=>rfl⟩ (af ⟨bC,fun _ _ _=>rfl⟩ an)) false ae
theorem aqQ:aj (Y9 (M.FA)):=aL (cx:=HS) true Za Tryz.func183 (aH (bH 1 (by kernel_rfl) (bI (.mk (by kernel_rfl) aqP)))) ⟨zs1,fun x=>x.1.1⟩ (fun x=>by kernel_rfl)
def M4(m:M.aR->(List UInt8)->Option (Int×Bool)):az K:={f:=146,sh:=GI,R:=Int×Bool,run:=fun x=>m x.1.1 x.1.2.1,dflt:=default,out:=fun r=>(Sh.enc D (.bT [.int .i64,.bool]) (r.1,(r.2,())),aU.encs D [] ())}
def Zb:Cx K:=aT [(183,.plain),(176,.plain)] [Y9 M.FA,Hy M.qc] []
theorem aqR:aK Zb:=aO ak _ (af aqQ (af MV an))
theorem Zc:aj (M4 (M.ui)):=aL (cx:=Zb) true aqR Tryz.func146 (aH (aE (by kernel_rfl))) ⟨AA,fun x=>(x.1.1.1,x.1.1.2.1)⟩ (fun x=>by kernel_rfl)
def Zd:bo K:=bA D false 84 1 [1,3,21,22,23] [2] Ze (fun x=>M.uu x.1.2.1 x.1.2.2.1 x.1.2.2.2.1 x.2.1 ae x.1.2.2.2.2.1) rx
def Zf(m:M.aX->Option Bool):az K:=cB 111 sc (fun x=>m x.1.1)
def HT:Cx K:=aT [(143,.ez),(146,.plain),(145,.plain)] [MY M.um,M4 M.ui,M1 M.oi] [(5,Zd)]
theorem Zg:aK HT:=aO ak _ (af Yz (af Zc (af Y0 an)))
theorem aqS:bp HT (bm (bw Tryz.f111) 0) Zd:=bB (cx:=HT) (sh:=Ze) (run:=fun n x=>M.uu x.1.2.1 x.1.2.2.1 x.1.2.2.2.1 x.2.1 n x.1.2.2.2.2.1) (bq:=ry) ak Zg aW (aE (by kernel_rfl)) (fun _=>rfl) (fun m x=>by kernel_rfl) (af ⟨cm,fun _ _ _=>rfl⟩ (af ⟨bC,fun _ _ _=>rfl⟩ an)) false ae
theorem aqT:aj (Zf (M.Ai)):=aL (cx:=HT) true Zg Tryz.func111 (aH (bH 1 (by kernel_rfl) (bI (.mk (by kernel_rfl) aqS)))) ⟨zs0,fun x=>x.1.1⟩ (fun x=>by kernel_rfl)
def aqU(y:(Bool×M.ar)⊕((List UInt8)×(List UInt8)×(List UInt8)×(List (List UInt8))×(List M.aD))){R:Type}(k:KT R):R:=match y with|.inl a0=>kk k Ex.ret Zh (((),(a0.1,())),(a0.2,((),((),()))))|.inr a1=>kk k (Ex.exit 0) Zi (((),((),())),((a1.1,(a1.2.1,(a1.2.2.1,((),((),()))))),((),((),(a1.2.2.2.1,(a1.2.2.2.2,()))))))
def aqV:List (cF K ((Bool×M.ar)⊕((List UInt8)×(List UInt8)×(List UInt8)×(List (List UInt8))×(List M.aD)))):=[⟨Ex.ret,Zh,fun x=>.inl (x.1.2.1,x.2.1)⟩,⟨(Ex.exit 0),Zi,fun x=>.inr ((x.2.1.1,x.2.1.2.1,x.2.1.2.2.1,x.2.2.2.2.1,x.2.2.2.2.2.1))⟩]
def Zj:bo K:=bA D false 21 3 [1,4,8,9,10] [4,5] Zk (fun x=>M.uw x.1.1 x.1.2.2.1 x.1.2.2.2.1 x.2.1.1 x.2.1.2.1 x.2.1.2.2.1 x.2.2.2.2.1 x.2.2.2.2.2.1 ae x.1.2.2.2.2.1) aqU
def M5(m:(List M.ar)->(List UInt8)->Option (M.ar×Bool)):az K:={f:=114,sh:=⟨[.ah U.aQ,.str],[]⟩,R:=M.ar×Bool,run:=fun x=>m x.1.1 x.1.2.1,dflt:=default,out:=fun r=>(Sh.enc D (.bT [.el U.aQ,.bool]) (r.1,(r.2,())),aU.encs D [] ())}
def HU:Cx K:=aT [(140,.plain)] [Gi M.mi] [(2,Zj)]
theorem Zl:aK HU:=aO ak _ (af Mc an)
theorem aqW:bp HU (bm (bw Tryz.f114) 0) Zj:=bB (cx:=HU) (sh:=Zk) (run:=fun n x=>M.uw x.1.1 x.1.2.2.1 x.1.2.2.2.1 x.2.1.1 x.2.1.2.1 x.2.1.2.2.1 x.2.2.2.2.1 x.2.2.2.2.2.1 n x.1.2.2.2.2.1) (bq:=aqV) ak Zl aW (aE (by kernel_rfl)) (fun _=>rfl) (fun m x=>by kernel_rfl) (af ⟨cm,fun _ _ _=>rfl⟩ (af ⟨bC,fun _ _ _=>rfl⟩ an)) false ae
theorem Zm:aj (M5 (M.uv)):=aL (cx:=HU) true Zl Tryz.func114 (aH (bH 1 (by kernel_rfl) (bI (.mk (by kernel_rfl) aqW)))) ⟨⟨[.bT [.el U.aQ,.bool]],[]⟩,fun x=>(x.1.1.1,x.1.1.2.1)⟩ (fun x=>by kernel_rfl)
def Zn(m:(List M.ar)->(List UInt8)->(List UInt8)->Option Bool):az K:=cB 147 G9 (fun x=>m x.1.1 x.1.2.1 x.1.2.2.1)
def Zo:Cx K:=aT [(114,.ez),(171,.plain)] [M5 M.uv,L8 M.rk] []
theorem aqX:aK Zo:=aO ak _ (af Zm (af TI an))
theorem aqY:aj (Zn (M.xy)):=aL (cx:=Zo) true aqX Tryz.func147 (aH (aE (by kernel_rfl))) ⟨zs0,fun x=>x.1.1⟩ (fun x=>by kernel_rfl)
def aqZ(y:Bool⊕(M.aX)){R:Type}(k:KT R):R:=match y with|.inl a0=>kk k Ex.ret xU (((),(a0,())),((),()))|.inr a1=>kk k (Ex.exit 0) ⟨[.ptr 0 0,.any],[.el U.eL]⟩ (((),((),())),(a1,()))
def aq0:List (cF K ((Bool)⊕(M.aX))):=[⟨Ex.ret,xU,fun x=>.inl x.1.2.1⟩,⟨(Ex.exit 0),⟨[.ptr 0 0,.any],[.el U.eL]⟩,fun x=>.inr (x.2.1)⟩]
def Zp:bo K:=bA D false 79 1 [1,11,12,13] [1,2] Zq (fun x=>M.uA x.1.2.1 x.1.2.2.1 x.2.1 ae x.1.2.2.2.1) aqZ
def Zr(m:M.aX->Option Bool):az K:=cB 112 sc (fun x=>m x.1.1)
def HV:Cx K:=aT [(147,.plain),(146,.plain),(109,.plain)] [Zn M.xy,M4 M.ui,mU M.mV] [(2,Zp)]
theorem Zs:aK HV:=aO ak _ (af aqY (af Zc (af ot an)))
theorem aq1:bp HV (bm (bw Tryz.f112) 0) Zp:=bB (cx:=HV) (sh:=Zq) (run:=fun n x=>M.uA x.1.2.1 x.1.2.2.1 x.2.1 n x.1.2.2.2.1) (bq:=aq0) ak Zs aW (aE (by kernel_rfl)) (fun _=>rfl) (fun m x=>by kernel_rfl) (af ⟨cm,fun _ _ _=>rfl⟩ (af ⟨bC,fun _ _ _=>rfl⟩ an)) false ae
theorem aq2:aj (Zr (M.Ak)):=aL (cx:=HV) true Zs Tryz.func112 (aH (bH 1 (by kernel_rfl) (bI (.mk (by kernel_rfl) aq1)))) ⟨zs0,fun x=>x.1.1⟩ (fun x=>by kernel_rfl)
def aq3(y:M.aX×(List (List UInt8))){R:Type}(k:KT R):R:=match y with|a0=>kk k (Ex.exit 0) HW (((),((),())),(a0.1,((),(a0.2,()))))
def aq4:List (cF K (M.aX×(List (List UInt8)))):=[⟨(Ex.exit 0),HW,fun x=>(x.2.1,x.2.2.2.1)⟩]
def Zt:bo K:=bA D false 46 2 [1,3,10,11,12] [1,3] Zu (fun x=>M.uC x.1.2.2.1 x.1.2.2.2.1 x.2.1 ae x.1.2.2.2.2.1 x.2.2.2.1) aq3
def aq5(y:M.aX×(List (List UInt8))){R:Type}(k:KT R):R:=match y with|a0=>kk k (Ex.exit 2) HW (((),((),())),(a0.1,((),(a0.2,()))))
def aq6:List (cF K (M.aX×(List (List UInt8)))):=[⟨(Ex.exit 2),HW,fun x=>(x.2.1,x.2.2.2.1)⟩]
def Zv:bo K:=bA D false 46 2 [1,3,23,24,25] [1,3] Zw (fun x=>M.uD x.1.2.2.1 x.1.2.2.2.1 x.2.1 ae x.1.2.2.2.2.1 x.2.2.2.1) aq5
def Zx(m:M.aX->Option Bool):az K:=cB 113 sc (fun x=>m x.1.1)
def yk:Cx K:=aT [(148,.plain)] [xJ M.kM] [(3,Zt),(8,Zv)]
theorem M6:aK yk:=aO ak _ (af FX an)
theorem aq7:bp yk (bm (bw Tryz.f113) 0) Zt:=bB (cx:=yk) (sh:=Zu) (run:=fun n x=>M.uC x.1.2.2.1 x.1.2.2.2.1 x.2.1 n x.1.2.2.2.2.1 x.2.2.2.1) (bq:=aq4) ak M6 aW (aE (by kernel_rfl)) (fun _=>rfl) (fun m x=>by kernel_rfl) (af ⟨bC,fun _ _ _=>rfl⟩ an) false ae
theorem aq8:bp yk (bm (bw Tryz.f113) 1) Zv:=bB (cx:=yk) (sh:=Zw) (run:=fun n x=>M.uD x.1.2.2.1 x.1.2.2.2.1 x.2.1 n x.1.2.2.2.2.1 x.2.2.2.1) (bq:=aq6) ak M6 aW (aE (by kernel_rfl)) (fun _=>rfl) (fun m x=>by kernel_rfl) (af ⟨bC,fun _ _ _=>rfl⟩ an) false ae
theorem aq9:aj (Zx (M.An)):=aL (cx:=yk) true M6 Tryz.func113 (aH (bH 2 (by kernel_rfl) (lt_succ (bI (.mk (by kernel_rfl) aq7)) (.mk (by kernel_rfl) aq8)))) ⟨zs0,fun x=>x.1.1⟩ (fun x=>by kernel_rfl)
def Zy(m:M.aX->Option ((List UInt8))):az K:=cS 66 sc (fun x=>m x.1.1)
def Zz:Cx K:=aT [(104,.plain),(105,.plain),(106,.plain),(107,.plain),(108,.plain),(109,.plain),(110,.plain),(111,.plain),(112,.plain),(113,.plain)] [xI M.jD,LV M.uE,Ux M.xN,Xj M.Xl,Ys M.BR,mU M.mV,Y3 M.Ah,Zf M.Ai,Zr M.Ak,Zx M.An] []
theorem ara:aK Zz:=aO ak _ (af AE (af SQ (af anG (af apv (af aql (af ot (af aqN (af aqT (af aq2 (af aq9 an))))))))))
theorem arb:aj (Zy (M.Aq)):=aL (cx:=Zz) true ara Tryz.func66 (aH (aE (by kernel_rfl))) ⟨ib,fun x=>x.1.1⟩ (fun x=>by kernel_rfl)
def ZA(m:M.aX->Option Bool):az K:=cB 30 sc (fun x=>m x.1.1)
def ZB:Cx K:=aT [(66,.plain)] [Zy M.Aq] []
theorem arc:aK ZB:=aO ak _ (af arb an)
theorem ard:aj (ZA (M.As)):=aL (cx:=ZB) true arc Tryz.func30 (aH (aE (by kernel_rfl))) ⟨zs0,fun x=>x.1.1⟩ (fun x=>by kernel_rfl)
def ZC:bo K:=bA D false 22 1 [0,3,4] [3] ZD (fun x=>M.so x.1.1 ae x.1.2.2.1 x.2.2.1) L1
def M7(m:(List (List UInt8))->Option ((List (List UInt8)))):az K:={f:=100,sh:=pS,R:=(List (List UInt8)),run:=fun x=>m x.1.1,dflt:=default,out:=fun r=>(Sh.enc D (.own 0) (),aU.encs D [.arr U.str] (r,()))}
def HY:Cx K:={dc with mode:=cV .plain [],eJ:=[[some U.str]],deep:=fun c=>cQ (D.cells c (K.zero c)),call:=callOf D [],loop:=cP [(3,ZC)]}
theorem ZE:aK HY:=aO ak _ an
theorem arf:bp HY (bm (bw Tryz.f100) 0) ZC:=bB (cx:=HY) (sh:=ZD) (run:=fun n x=>M.so x.1.1 n x.1.2.2.1 x.2.2.1) (bq:=L2) ak ZE aW (aE (by kernel_rfl)) (fun _=>rfl) (fun m x=>by kernel_rfl) (af ⟨bC,fun _ _ _=>rfl⟩ an) false ae
theorem ZF:aj (M7 (M.vc)):=aL (cx:=HY) false ZE Tryz.func100 (aH (bH 1 (by kernel_rfl) (bI (.mk (by kernel_rfl) arf)))) ⟨⟨[.own 0],[.arr U.str]⟩,fun x=>x.2.1⟩ (fun x=>by kernel_rfl)
def mZ(m:M.aa->Option (Int×(List UInt8)×(List (List UInt8))×(List M.aa))):az K:={f:=199,sh:=iv,R:=Int×(List UInt8)×(List (List UInt8))×(List M.aa),run:=fun x=>m x.1.1,dflt:=default,out:=fun r=>(Sh.enc D (.agg [.int .i64,.str,.own 0,.own 1]) (r.1,(r.2.1,((),((),())))),aU.encs D [.arr U.str,.tree U.Type] (r.2.2.1,(r.2.2.2,())))}
def ZG(y:(List M.aa)){R:Type}(k:KT R):R:=match y with|a0=>kk k (Ex.exit 0) ZH (((),()),((),(a0,())))
def ZI:List (cF K ((List M.aa))):=[⟨(Ex.exit 0),ZH,fun x=>x.2.2.1⟩]
def ZJ(eg:M.aa->Option (Int×(List UInt8)×(List (List UInt8))×(List M.aa))):bo K:=bA D false 23 1 [0,3,4] [3] ZK (fun x=>M.sq eg x.1.1 ae x.1.2.2.1 x.2.2.1) ZG
def ZL(m:(List M.aa)->Option ((List M.aa))):az K:={f:=236,sh:=lF,R:=(List M.aa),run:=fun x=>m x.1.1,dflt:=default,out:=fun r=>(Sh.enc D (.own 0) (),aU.encs D [.tree U.Type] (r,()))}
def HZ(eg:M.aa->Option (Int×(List UInt8)×(List (List UInt8))×(List M.aa))):Cx K:={dc with mode:=cV .plain [(199,.fresh)],eJ:=[[some U.Type]],deep:=fun c=>cQ (D.cells c (K.zero c)),call:=callOf D [mZ eg],loop:=cP [(3,ZJ eg)]}
theorem ZM(eg:M.aa->Option (Int×(List UInt8)×(List (List UInt8))×(List M.aa)))(ov:aj (mZ eg)):aK (HZ eg):=aO ak _ (af ov an)
theorem arh(eg:M.aa->Option (Int×(List UInt8)×(List (List UInt8))×(List M.aa)))(ov:aj (mZ eg)):bp (HZ eg) (bm (bw Tryz.f236) 0) (ZJ eg):=bB (cx:=HZ eg) (sh:=ZK) (run:=fun n x=>M.sq eg x.1.1 n x.1.2.2.1 x.2.2.1) (bq:=ZI) ak (ZM eg ov) aW (aE (by kernel_rfl)) (fun _=>rfl) (fun m x=>by kernel_rfl) (af ⟨bC,fun _ _ _=>rfl⟩ an) false ae
theorem ari(eg:M.aa->Option (Int×(List UInt8)×(List (List UInt8))×(List M.aa)))(ov:aj (mZ eg)):aj (ZL (M.BV eg)):=fb (cx:=HZ eg) (fz:=false) ak (ZM eg ov) aW ⟨Tryz.func236,by kernel_rfl⟩ (aH (bH 1 (by kernel_rfl) (bI (.mk (by kernel_rfl) (arh eg ov))))) ⟨⟨[.own 0],[.tree U.Type]⟩,fun x=>x.2.1⟩ (fun x=>rfl) (fun x=>by kernel_rfl)
def ZN(eg:M.aa->Option (Int×(List UInt8)×(List (List UInt8))×(List M.aa))):Cx K:={dc with mode:=cV .plain [(100,.fresh),(236,.fresh)],eJ:=[[none,none,some U.str,some U.Type]],deep:=fun c=>cQ (D.cells c (K.zero c)),call:=callOf D [M7 M.vc,ZL (M.BV eg)],loop:=cP []}
theorem arj(eg:M.aa->Option (Int×(List UInt8)×(List (List UInt8))×(List M.aa)))(ov:aj (mZ eg)):aK (ZN eg):=aO ak _ (af ZF (af (ari eg ov) an))
theorem ark(eg:M.aa->Option (Int×(List UInt8)×(List (List UInt8))×(List M.aa)))(ov:aj (mZ eg)):aj (mZ (M.H3 eg)):=fb (cx:=ZN eg) (fz:=false) ak (arj eg ov) aW ⟨Tryz.func199,by kernel_rfl⟩ (aH (aE (by kernel_rfl))) ⟨ZO,fun x=>(x.1.1.1,x.1.1.2.1,x.2.1,x.2.2.1)⟩ (fun x=>rfl) (fun x=>by kernel_rfl)
theorem ZP:∀n,aj (mZ (M.vd n))|0=>ic fun _=>rfl|n+1=>ark (M.vd n) (ZP n)
theorem ZQ:aj (mZ (M.yl)):=ZP ae
def ZR(m:M.al->Option ((List UInt8)×Int×(List UInt8)×(List (List UInt8))×(List M.aa))):az K:={f:=235,sh:=⟨[.el U.Param],[]⟩,R:=(List UInt8)×Int×(List UInt8)×(List (List UInt8))×(List M.aa),run:=fun x=>m x.1.1,dflt:=default,out:=fun r=>(Sh.enc D (.agg [.str,.int .i64,.str,.own 0,.own 1]) (r.1,(r.2.1,(r.2.2.1,((),((),()))))),aU.encs D [.arr U.str,.tree U.Type] (r.2.2.2.1,(r.2.2.2.2,())))}
def ZS:Cx K:={dc with mode:=cV .plain [(199,.fresh)],eJ:=[[none,none,none,some U.str,some U.Type]],deep:=fun c=>cQ (D.cells c (K.zero c)),call:=callOf D [mZ M.yl],loop:=cP []}
theorem arl:aK ZS:=aO ak _ (af ZQ an)
theorem arn:aj (ZR (M.BW)):=aL (cx:=ZS) false arl Tryz.func235 (aH (aE (by kernel_rfl))) ⟨⟨[.agg [.str,.int .i64,.str,.own 0,.own 1]],[.arr U.str,.tree U.Type]⟩,fun x=>(x.1.1.1,x.1.1.2.1,x.1.1.2.2.1,x.2.1,x.2.2.1)⟩ (fun x=>by kernel_rfl)
def aro(y:(List M.al)){R:Type}(k:KT R):R:=match y with|a0=>kk k (Ex.exit 0) ⟨[.own 1],[.dead,.tree U.Param]⟩ (((),()),((),(a0,())))
def arp:List (cF K ((List M.al))):=[⟨(Ex.exit 0),⟨[.own 1],[.dead,.tree U.Param]⟩,fun x=>x.2.2.1⟩]
def ZT:bo K:=bA D false 23 1 [0,3,4] [3] ZU (fun x=>M.sr x.1.1 ae x.1.2.2.1 x.2.2.1) aro
def ZV(m:(List M.al)->Option ((List M.al))):az K:={f:=198,sh:=⟨[.ah U.Param],[]⟩,R:=(List M.al),run:=fun x=>m x.1.1,dflt:=default,out:=fun r=>(Sh.enc D (.own 0) (),aU.encs D [.tree U.Param] (r,()))}
def H4:Cx K:={dc with mode:=cV .plain [(235,.fresh)],eJ:=[[some U.Param]],deep:=fun c=>cQ (D.cells c (K.zero c)),call:=callOf D [ZR M.BW],loop:=cP [(3,ZT)]}
theorem ZW:aK H4:=aO ak _ (af arn an)
theorem arq:bp H4 (bm (bw Tryz.f198) 0) ZT:=bB (cx:=H4) (sh:=ZU) (run:=fun n x=>M.sr x.1.1 n x.1.2.2.1 x.2.2.1) (bq:=arp) ak ZW aW (aE (by kernel_rfl)) (fun _=>rfl) (fun m x=>by kernel_rfl) (af ⟨bC,fun _ _ _=>rfl⟩ an) false ae
theorem ars:aj (ZV (M.BX)):=aL (cx:=H4) false ZW Tryz.func198 (aH (bH 1 (by kernel_rfl) (bI (.mk (by kernel_rfl) arq)))) ⟨⟨[.own 0],[.tree U.Param]⟩,fun x=>x.2.1⟩ (fun x=>by kernel_rfl)
def ZX(m:M.av->Option (Int×(List UInt8)×Bool×(List M.al)×(List (List UInt8))×(List M.aa))):az K:={f:=162,sh:=lC,R:=Int×(List UInt8)×Bool×(List M.al)×(List (List UInt8))×(List M.aa),run:=fun x=>m x.1.1,dflt:=default,out:=fun r=>(Sh.enc D (.agg [.own 0,.int .i64,.str,.own 1,.own 2,.bool]) ((),(r.1,(r.2.1,((),((),(r.2.2.1,())))))),aU.encs D [.tree U.Param,.arr U.str,.tree U.Type] (r.2.2.2.1,(r.2.2.2.2.1,(r.2.2.2.2.2,()))))}
def ZY:Cx K:={dc with mode:=cV .plain [(198,.fresh),(199,.fresh)],eJ:=[[some U.Param,none,none,some U.str,some U.Type,none]],deep:=fun c=>cQ (D.cells c (K.zero c)),call:=callOf D [ZV M.BX,mZ M.yl],loop:=cP []}
theorem art:aK ZY:=aO ak _ (af ars (af ZQ an))
theorem aru:aj (ZX (M.BY)):=aL (cx:=ZY) false art Tryz.func162 (aH (aE (by kernel_rfl))) ⟨ZZ,fun x=>(x.1.1.2.1,x.1.1.2.2.1,x.1.1.2.2.2.2.2.1,x.2.1,x.2.2.1,x.2.2.2.1)⟩ (fun x=>by kernel_rfl)
def Z0(m:M.aD->Option ((List UInt8)×Int×(List UInt8)×Bool×(List M.al)×(List (List UInt8))×(List M.aa))):az K:={f:=133,sh:=⟨[.el U.Func],[]⟩,R:=(List UInt8)×Int×(List UInt8)×Bool×(List M.al)×(List (List UInt8))×(List M.aa),run:=fun x=>m x.1.1,dflt:=default,out:=fun r=>(Sh.enc D (.agg [.str,.own 0,.int .i64,.str,.own 1,.own 2,.bool]) (r.1,((),(r.2.1,(r.2.2.1,((),((),(r.2.2.2.1,()))))))),aU.encs D [.tree U.Param,.arr U.str,.tree U.Type] (r.2.2.2.2.1,(r.2.2.2.2.2.1,(r.2.2.2.2.2.2,()))))}
def Z1:Cx K:={dc with mode:=cV .plain [(162,.fresh)],eJ:=[[none,some U.Param,none,none,some U.str,some U.Type,none]],deep:=fun c=>cQ (D.cells c (K.zero c)),call:=callOf D [ZX M.BY],loop:=cP []}
theorem arv:aK Z1:=aO ak _ (af aru an)
theorem arw:aj (Z0 (M.BZ)):=aL (cx:=Z1) false arv Tryz.func133 (aH (aE (by kernel_rfl))) ⟨⟨[.agg [.str,.own 0,.int .i64,.str,.own 1,.own 2,.bool]],[.tree U.Param,.arr U.str,.tree U.Type]⟩,fun x=>(x.1.1.1,x.1.1.2.2.1,x.1.1.2.2.2.1,x.1.1.2.2.2.2.2.2.1,x.2.1,x.2.2.1,x.2.2.2.1)⟩ (fun x=>by kernel_rfl)
def arx(y:(List M.aD)){R:Type}(k:KT R):R:=match y with|a0=>kk k (Ex.exit 0) ⟨[.own 1],[.dead,.tree U.Func]⟩ (((),()),((),(a0,())))
def ary:List (cF K ((List M.aD))):=[⟨(Ex.exit 0),⟨[.own 1],[.dead,.tree U.Func]⟩,fun x=>x.2.2.1⟩]
def Z2:bo K:=bA D false 23 1 [0,3,4] [3] Z3 (fun x=>M.su x.1.1 ae x.1.2.2.1 x.2.2.1) arx
def Z4(m:(List M.aD)->Option ((List M.aD))):az K:={f:=101,sh:=⟨[.ah U.Func],[]⟩,R:=(List M.aD),run:=fun x=>m x.1.1,dflt:=default,out:=fun r=>(Sh.enc D (.own 0) (),aU.encs D [.tree U.Func] (r,()))}
def H5:Cx K:={dc with mode:=cV .plain [(133,.fresh)],eJ:=[[some U.Func]],deep:=fun c=>cQ (D.cells c (K.zero c)),call:=callOf D [Z0 M.BZ],loop:=cP [(3,Z2)]}
theorem Z5:aK H5:=aO ak _ (af arw an)
theorem arz:bp H5 (bm (bw Tryz.f101) 0) Z2:=bB (cx:=H5) (sh:=Z3) (run:=fun n x=>M.su x.1.1 n x.1.2.2.1 x.2.2.1) (bq:=ary) ak Z5 aW (aE (by kernel_rfl)) (fun _=>rfl) (fun m x=>by kernel_rfl) (af ⟨bC,fun _ _ _=>rfl⟩ an) false ae
theorem arA:aj (Z4 (M.B0)):=aL (cx:=H5) false Z5 Tryz.func101 (aH (bH 1 (by kernel_rfl) (bI (.mk (by kernel_rfl) arz)))) ⟨⟨[.own 0],[.tree U.Func]⟩,fun x=>x.2.1⟩ (fun x=>by kernel_rfl)
def Z6(m:M.ar->Option ((List UInt8)×(List UInt8)×(List UInt8)×(List (List UInt8))×(List M.aD))):az K:={f:=60,sh:=Aw,R:=(List UInt8)×(List UInt8)×(List UInt8)×(List (List UInt8))×(List M.aD),run:=fun x=>m x.1.1,dflt:=default,out:=fun r=>(Sh.enc D (.agg [.str,.str,.str,.own 0,.own 1]) (r.1,(r.2.1,(r.2.2.1,((),((),()))))),aU.encs D [.arr U.str,.tree U.Func] (r.2.2.2.1,(r.2.2.2.2,())))}
def Z7:Cx K:={dc with mode:=cV .plain [(100,.fresh),(101,.fresh)],eJ:=[[none,none,none,some U.str,some U.Func]],deep:=fun c=>cQ (D.cells c (K.zero c)),call:=callOf D [M7 M.vc,Z4 M.B0],loop:=cP []}
theorem arB:aK Z7:=aO ak _ (af ZF (af arA an))
theorem arC:aj (Z6 (M.B1)):=aL (cx:=Z7) false arB Tryz.func60 (aH (aE (by kernel_rfl))) ⟨⟨[.agg [.str,.str,.str,.own 0,.own 1]],[.arr U.str,.tree U.Func]⟩,fun x=>(x.1.1.1,x.1.1.2.1,x.1.1.2.2.1,x.2.1,x.2.2.1)⟩ (fun x=>by kernel_rfl)
def arD(y:(List M.ar)){R:Type}(k:KT R):R:=match y with|a0=>kk k (Ex.exit 0) ⟨[.own 1],[.dead,.tree U.aQ]⟩ (((),()),((),(a0,())))
def arE:List (cF K ((List M.ar))):=[⟨(Ex.exit 0),⟨[.own 1],[.dead,.tree U.aQ]⟩,fun x=>x.2.2.1⟩]
def Z8:bo K:=bA D false 23 1 [0,3,4] [3] Z9 (fun x=>M.sw x.1.1 ae x.1.2.2.1 x.2.2.1) arD
def aab(m:(List M.ar)->Option ((List M.ar))):az K:={f:=25,sh:=FK,R:=(List M.ar),run:=fun x=>m x.1.1,dflt:=default,out:=fun r=>(Sh.enc D (.own 0) (),aU.encs D [.tree U.aQ] (r,()))}
def H6:Cx K:={dc with mode:=cV .plain [(60,.fresh)],eJ:=[[some U.aQ]],deep:=fun c=>cQ (D.cells c (K.zero c)),call:=callOf D [Z6 M.B1],loop:=cP [(3,Z8)]}
theorem aac:aK H6:=aO ak _ (af arC an)
theorem arF:bp H6 (bm (bw Tryz.f25) 0) Z8:=bB (cx:=H6) (sh:=Z9) (run:=fun n x=>M.sw x.1.1 n x.1.2.2.1 x.2.2.1) (bq:=arE) ak aac aW (aE (by kernel_rfl)) (fun _=>rfl) (fun m x=>by kernel_rfl) (af ⟨bC,fun _ _ _=>rfl⟩ an) false ae
theorem arG:aj (aab (M.ym)):=aL (cx:=H6) false aac Tryz.func25 (aH (bH 1 (by kernel_rfl) (bI (.mk (by kernel_rfl) arF)))) ⟨⟨[.own 0],[.tree U.aQ]⟩,fun x=>x.2.1⟩ (fun x=>by kernel_rfl)
def aad(m:M.aX->Option ((List UInt8)×(List UInt8)×Int×Int×Int×(List M.ar)×(List M.ar)×(List M.aM)×(List M.aw)×(List M.bk)×(List M.bh)×(List M.bg))):az K:={f:=7,sh:=sc,R:=(List UInt8)×(List UInt8)×Int×Int×Int×(List M.ar)×(List M.ar)×(List M.aM)×(List M.aw)×(List M.bk)×(List M.bh)×(List M.bg),run:=fun x=>m x.1.1,dflt:=default,out:=fun r=>(Sh.enc D (.agg [.str,.str,.own 0,.own 1,.int .i64,.int .i64,.int .i64,.own 2,.own 3,.own 4,.own 5,.own 6]) (r.1,(r.2.1,((),((),(r.2.2.1,(r.2.2.2.1,(r.2.2.2.2.1,((),((),((),((),((),())))))))))))),aU.encs D [.tree U.aQ,.tree U.aQ,.arr U.Import,.tree U.Core,.arr U.dA,.arr U.Lower,.arr U.Builtin] (r.2.2.2.2.2.1,(r.2.2.2.2.2.2.1,(r.2.2.2.2.2.2.2.1,(r.2.2.2.2.2.2.2.2.1,(r.2.2.2.2.2.2.2.2.2.1,(r.2.2.2.2.2.2.2.2.2.2.1,(r.2.2.2.2.2.2.2.2.2.2.2,()))))))))}
def aae:Cx K:={dc with mode:=cV .plain [(25,.fresh),(26,.fresh),(27,.fresh),(28,.fresh),(29,.fresh)],eJ:=[[none,none,some U.aQ,some U.aQ,none,none,none,some U.Import,some U.Core,some U.dA,some U.Lower,some U.Builtin]],deep:=fun c=>cQ (D.cells c (K.zero c)),call:=callOf D [aab M.ym,aaf M.B2,Vj M.A8,Vo M.A9,Vt M.Ba],loop:=cP []}
theorem arH:aK aae:=aO ak _ (af arG (af arI (af aob (af aog (af aol an)))))
theorem arJ:aj (aad (M.B5)):=aL (cx:=aae) false arH Tryz.func7 (aH (aE (by kernel_rfl))) ⟨⟨[.agg [.str,.str,.own 0,.own 1,.int .i64,.int .i64,.int .i64,.own 2,.own 3,.own 4,.own 5,.own 6]],[.tree U.aQ,.tree U.aQ,.arr U.Import,.tree U.Core,.arr U.dA,.arr U.Lower,.arr U.Builtin]⟩,fun x=>(x.1.1.1,x.1.1.2.1,x.1.1.2.2.2.2.1,x.1.1.2.2.2.2.2.1,x.1.1.2.2.2.2.2.2.1,x.2.1,x.2.2.1,x.2.2.2.1,x.2.2.2.2.1,x.2.2.2.2.2.1,x.2.2.2.2.2.2.1,x.2.2.2.2.2.2.2.1)⟩ (fun x=>by kernel_rfl)
def arK(y:(List UInt8)){R:Type}(k:KT R):R:=match y with|a0=>kk k (Ex.exit 0) ib ((a0,()),())
def arL:List (cF K ((List UInt8))):=[⟨(Ex.exit 0),ib,fun x=>x.1.1⟩]
def aag:bo K:=bA D false 20 0 [0,3] [3] ⟨[.int .i64,.str],[]⟩ (fun x=>M.ve ae x.1.1 x.1.2.1) arK
def kO(m:Int->Option ((List UInt8))):az K:=cS 77 zs1 (fun x=>m x.1.1)
def H7:Cx K:={dc with mode:=cV .plain [],deep:=fun c=>cQ (D.cells c (K.zero c)),call:=callOf D [],loop:=cP [(4,aag)]}
theorem aah:aK H7:=aO ak _ an
theorem arM:bp H7 (bm (bw Tryz.f77) 0) aag:=bB (cx:=H7) (sh:=⟨[.int .i64,.str],[]⟩) (run:=fun n x=>M.ve n x.1.1 x.1.2.1) (bq:=arL) ak aah aW (aE (by kernel_rfl)) (fun _=>rfl) (fun m x=>by kernel_rfl) (af ⟨bC,fun _ _ _=>rfl⟩ an) false ae
theorem lH:aj (kO (M.dO)):=aL (cx:=H7) true aah Tryz.func77 (aH (bH 1 (by kernel_rfl) (bI (.mk (by kernel_rfl) arM)))) ⟨ib,fun x=>x.1.1⟩ (fun x=>by kernel_rfl)
def arN(y:Int×(List (List UInt8))){R:Type}(k:KT R):R:=match y with|a0=>kk k (Ex.exit 0) M8 ((a0.1,()),(a0.2,()))
def arO:List (cF K (Int×(List (List UInt8)))):=[⟨(Ex.exit 0),M8,fun x=>(x.1.1,x.2.1)⟩]
def aai:bo K:=bA D true 20 1 [0,1,5] [1] aaj (fun x=>M.qe ae x.1.2.1 x.1.2.2.1 x.2.1) arN
def yn(m:Int->(List (List UInt8))->Option (Int×(List (List UInt8)))):az K:={f:=78,sh:=⟨[.own 0,.int .i64],[.arr U.str]⟩,R:=Int×(List (List UInt8)),run:=fun x=>m x.1.2.1 x.2.1,dflt:=default,out:=fun r=>(Sh.enc D (.int .i64) r.1,aU.encs D [.arr U.str] (r.2,()))}
def H8:Cx K:={dc with mode:=cV .plain [(77,.plain)],deep:=fun c=>cQ (D.cells c (K.zero c)),opn:=true,call:=callOf D [kO M.dO],loop:=cP [(2,aai)]}
theorem aak:aK H8:=aO ak _ (af lH an)
theorem arP:bp H8 (bm (bw Tryz.f78) 0) aai:=bB (cx:=H8) (sh:=aaj) (run:=fun n x=>M.qe n x.1.2.1 x.1.2.2.1 x.2.1) (bq:=arO) ak aak aW (aE (by kernel_rfl)) (fun _=>rfl) (fun m x=>by kernel_rfl) (af ⟨bC,fun _ _ _=>rfl⟩ an) true ae
theorem B6:aj (yn (M.jG)):=aL (cx:=H8) true aak Tryz.func78 (aH (bH 1 (by kernel_rfl) (bI (.mk (by kernel_rfl) arP)))) ⟨M8,fun x=>(x.1.1,x.2.1)⟩ (fun x=>by kernel_rfl)
def ow(m:Int->(List M.aa)->Option (Int×(List M.aa))):az K:={f:=82,sh:=⟨[.own 0,.int .i64],[.tree U.Type]⟩,R:=Int×(List M.aa),run:=fun x=>m x.1.2.1 x.2.1,dflt:=default,out:=fun r=>(Sh.enc D (.int .i64) r.1,aU.encs D [.tree U.Type] (r.2,()))}
def arQ(y:Int×(List M.aa)){R:Type}(k:KT R):R:=match y with|a0=>kk k (Ex.exit 0) M9 ((a0.1,()),(a0.2,()))
def arR:List (cF K (Int×(List M.aa))):=[⟨(Ex.exit 0),M9,fun x=>(x.1.1,x.2.1)⟩]
def aal(fS:Int->(List M.aa)->Option (Int×(List M.aa))):bo K:=bA D true 42 1 [0,1,5] [1] aam (fun x=>M.ox fS ae x.1.2.1 x.1.2.2.1 x.2.1) arQ
def H9(fS:Int->(List M.aa)->Option (Int×(List M.aa))):Cx K:={dc with mode:=cV .plain [(77,.plain),(78,.pass),(82,.pass)],deep:=fun c=>cQ (D.cells c (K.zero c)),opn:=true,call:=callOf D [kO M.dO,yn M.jG,ow fS],loop:=cP [(2,aal fS)]}
theorem aan(fS:Int->(List M.aa)->Option (Int×(List M.aa)))(yo:aj (ow fS)):aK (H9 fS):=aO ak _ (af lH (af B6 (af yo an)))
theorem arS(fS:Int->(List M.aa)->Option (Int×(List M.aa)))(yo:aj (ow fS)):bp (H9 fS) (bm (bw Tryz.f82) 0) (aal fS):=bB (cx:=H9 fS) (sh:=aam) (run:=fun n x=>M.ox fS n x.1.2.1 x.1.2.2.1 x.2.1) (bq:=arR) ak (aan fS yo) aW (aE (by kernel_rfl)) (fun _=>rfl) (fun m x=>by kernel_rfl) (af ⟨bC,fun _ _ _=>rfl⟩ an) true ae
theorem arT(fS:Int->(List M.aa)->Option (Int×(List M.aa)))(yo:aj (ow fS)):aj (ow (M.yp fS)):=fb (cx:=H9 fS) (fz:=true) ak (aan fS yo) aW ⟨Tryz.func82,by kernel_rfl⟩ (aH (bH 1 (by kernel_rfl) (bI (.mk (by kernel_rfl) (arS fS yo))))) ⟨M9,fun x=>(x.1.1,x.2.1)⟩ (fun x=>rfl) (fun x=>by kernel_rfl)
theorem aao:∀n,aj (ow (M.oy n))|0=>ic fun _=>rfl|n+1=>arT (M.oy n) (aao n)
theorem Na:aj (ow (M.oz)):=aao ae
def arU(y:Int×(List M.al)){R:Type}(k:KT R):R:=match y with|a0=>kk k (Ex.exit 0) Nb ((a0.1,()),(a0.2,()))
def arV:List (cF K (Int×(List M.al))):=[⟨(Ex.exit 0),Nb,fun x=>(x.1.1,x.2.1)⟩]
def aap:bo K:=bA D true 54 1 [0,1,5] [1] aaq (fun x=>M.oC ae x.1.2.1 x.1.2.2.1 x.2.1) arU
def Nc(m:Int->(List M.al)->Option (Int×(List M.al))):az K:={f:=45,sh:=⟨[.own 0,.int .i64],[.tree U.Param]⟩,R:=Int×(List M.al),run:=fun x=>m x.1.2.1 x.2.1,dflt:=default,out:=fun r=>(Sh.enc D (.int .i64) r.1,aU.encs D [.tree U.Param] (r.2,()))}
def Ia:Cx K:={dc with mode:=cV .plain [(77,.plain),(78,.pass),(82,.pass)],deep:=fun c=>cQ (D.cells c (K.zero c)),opn:=true,call:=callOf D [kO M.dO,yn M.jG,ow M.oz],loop:=cP [(2,aap)]}
theorem aar:aK Ia:=aO ak _ (af lH (af B6 (af Na an)))
theorem arW:bp Ia (bm (bw Tryz.f45) 0) aap:=bB (cx:=Ia) (sh:=aaq) (run:=fun n x=>M.oC n x.1.2.1 x.1.2.2.1 x.2.1) (bq:=arV) ak aar aW (aE (by kernel_rfl)) (fun _=>rfl) (fun m x=>by kernel_rfl) (af ⟨bC,fun _ _ _=>rfl⟩ an) true ae
theorem aas:aj (Nc (M.qf)):=aL (cx:=Ia) true aar Tryz.func45 (aH (bH 1 (by kernel_rfl) (bI (.mk (by kernel_rfl) arW)))) ⟨Nb,fun x=>(x.1.1,x.2.1)⟩ (fun x=>by kernel_rfl)
def arX(y:Int×(List M.aD)){R:Type}(k:KT R):R:=match y with|a0=>kk k (Ex.exit 0) Nh ((a0.1,()),(a0.2,()))
def arY:List (cF K (Int×(List M.aD))):=[⟨(Ex.exit 0),Nh,fun x=>(x.1.1,x.2.1)⟩]
def aat:bo K:=bA D true 76 1 [0,1,5] [1] aau (fun x=>M.vf ae x.1.2.1 x.1.2.2.1 x.2.1) arX
def aav(m:Int->(List M.aD)->Option (Int×(List M.aD))):az K:={f:=79,sh:=⟨[.own 0,.int .i64],[.tree U.Func]⟩,R:=Int×(List M.aD),run:=fun x=>m x.1.2.1 x.2.1,dflt:=default,out:=fun r=>(Sh.enc D (.int .i64) r.1,aU.encs D [.tree U.Func] (r.2,()))}
def Ib:Cx K:={dc with mode:=cV .plain [(77,.plain),(45,.pass),(78,.pass),(82,.pass)],deep:=fun c=>cQ (D.cells c (K.zero c)),opn:=true,call:=callOf D [kO M.dO,Nc M.qf,yn M.jG,ow M.oz],loop:=cP [(2,aat)]}
theorem aaw:aK Ib:=aO ak _ (af lH (af aas (af B6 (af Na an))))
theorem arZ:bp Ib (bm (bw Tryz.f79) 0) aat:=bB (cx:=Ib) (sh:=aau) (run:=fun n x=>M.vf n x.1.2.1 x.1.2.2.1 x.2.1) (bq:=arY) ak aaw aW (aE (by kernel_rfl)) (fun _=>rfl) (fun m x=>by kernel_rfl) (af ⟨bC,fun _ _ _=>rfl⟩ an) true ae
theorem ar0:aj (aav (M.B7)):=aL (cx:=Ib) true aaw Tryz.func79 (aH (bH 1 (by kernel_rfl) (bI (.mk (by kernel_rfl) arZ)))) ⟨Nh,fun x=>(x.1.1,x.2.1)⟩ (fun x=>by kernel_rfl)
def ar1(y:Int×(List M.ar)){R:Type}(k:KT R):R:=match y with|a0=>kk k (Ex.exit 0) Ni ((a0.1,()),(a0.2,()))
def ar2:List (cF K (Int×(List M.ar))):=[⟨(Ex.exit 0),Ni,fun x=>(x.1.1,x.2.1)⟩]
def aax:bo K:=bA D true 51 1 [0,1,5] [1] aay (fun x=>M.vg ae x.1.2.1 x.1.2.2.1 x.2.1) ar1
def aaz(m:Int->(List M.ar)->Option (Int×(List M.ar))):az K:={f:=40,sh:=⟨[.own 0,.int .i64],[.tree U.aQ]⟩,R:=Int×(List M.ar),run:=fun x=>m x.1.2.1 x.2.1,dflt:=default,out:=fun r=>(Sh.enc D (.int .i64) r.1,aU.encs D [.tree U.aQ] (r.2,()))}
def Ic:Cx K:={dc with mode:=cV .plain [(77,.plain),(78,.pass),(79,.pass)],deep:=fun c=>cQ (D.cells c (K.zero c)),opn:=true,call:=callOf D [kO M.dO,yn M.jG,aav M.B7],loop:=cP [(2,aax)]}
theorem aaA:aK Ic:=aO ak _ (af lH (af B6 (af ar0 an)))
theorem ar4:bp Ic (bm (bw Tryz.f40) 0) aax:=bB (cx:=Ic) (sh:=aay) (run:=fun n x=>M.vg n x.1.2.1 x.1.2.2.1 x.2.1) (bq:=ar2) ak aaA aW (aE (by kernel_rfl)) (fun _=>rfl) (fun m x=>by kernel_rfl) (af ⟨bC,fun _ _ _=>rfl⟩ an) true ae
theorem ar5:aj (aaz (M.yq)):=aL (cx:=Ic) true aaA Tryz.func40 (aH (bH 1 (by kernel_rfl) (bI (.mk (by kernel_rfl) ar4)))) ⟨Ni,fun x=>(x.1.1,x.2.1)⟩ (fun x=>by kernel_rfl)
def ar6(y:Int×(List M.aM)){R:Type}(k:KT R):R:=match y with|a0=>kk k (Ex.exit 0) Nj ((a0.1,()),(a0.2,()))
def ar7:List (cF K (Int×(List M.aM))):=[⟨(Ex.exit 0),Nj,fun x=>(x.1.1,x.2.1)⟩]
def aaB:bo K:=bA D true 37 1 [0,1,5] [1] aaC (fun x=>M.vh ae x.1.2.1 x.1.2.2.1 x.2.1) ar6
def aaD(m:Int->(List M.aM)->Option (Int×(List M.aM))):az K:={f:=80,sh:=⟨[.own 0,.int .i64],[.arr U.Import]⟩,R:=Int×(List M.aM),run:=fun x=>m x.1.2.1 x.2.1,dflt:=default,out:=fun r=>(Sh.enc D (.int .i64) r.1,aU.encs D [.arr U.Import] (r.2,()))}
def Ie:Cx K:={dc with mode:=cV .plain [(77,.plain)],deep:=fun c=>cQ (D.cells c (K.zero c)),opn:=true,call:=callOf D [kO M.dO],loop:=cP [(2,aaB)]}
theorem aaE:aK Ie:=aO ak _ (af lH an)
theorem ar8:bp Ie (bm (bw Tryz.f80) 0) aaB:=bB (cx:=Ie) (sh:=aaC) (run:=fun n x=>M.vh n x.1.2.1 x.1.2.2.1 x.2.1) (bq:=ar7) ak aaE aW (aE (by kernel_rfl)) (fun _=>rfl) (fun m x=>by kernel_rfl) (af ⟨bC,fun _ _ _=>rfl⟩ an) true ae
theorem ar9:aj (aaD (M.B8)):=aL (cx:=Ie) true aaE Tryz.func80 (aH (bH 1 (by kernel_rfl) (bI (.mk (by kernel_rfl) ar8)))) ⟨Nj,fun x=>(x.1.1,x.2.1)⟩ (fun x=>by kernel_rfl)
def asa(y:Int×(List M.aJ)){R:Type}(k:KT R):R:=match y with|a0=>kk k (Ex.exit 0) Nk ((a0.1,()),(a0.2,()))
def asb:List (cF K (Int×(List M.aJ))):=[⟨(Ex.exit 0),Nk,fun x=>(x.1.1,x.2.1)⟩]
def aaF:bo K:=bA D true 27 1 [0,1,5] [1] aaG (fun x=>M.vi ae x.1.2.1 x.1.2.2.1 x.2.1) asa
def aaH(m:Int->(List M.aJ)->Option (Int×(List M.aJ))):az K:={f:=121,sh:=⟨[.own 0,.int .i64],[.arr U.Ins]⟩,R:=Int×(List M.aJ),run:=fun x=>m x.1.2.1 x.2.1,dflt:=default,out:=fun r=>(Sh.enc D (.int .i64) r.1,aU.encs D [.arr U.Ins] (r.2,()))}
def Ig:Cx K:={dc with mode:=cV .plain [],deep:=fun c=>cQ (D.cells c (K.zero c)),opn:=true,call:=callOf D [],loop:=cP [(2,aaF)]}
theorem aaI:aK Ig:=aO ak _ an
theorem asc:bp Ig (bm (bw Tryz.f121) 0) aaF:=bB (cx:=Ig) (sh:=aaG) (run:=fun n x=>M.vi n x.1.2.1 x.1.2.2.1 x.2.1) (bq:=asb) ak aaI aW (aE (by kernel_rfl)) (fun _=>rfl) (fun m x=>by kernel_rfl) (af ⟨bC,fun _ _ _=>rfl⟩ an) true ae
theorem ase:aj (aaH (M.B9)):=aL (cx:=Ig) true aaI Tryz.func121 (aH (bH 1 (by kernel_rfl) (bI (.mk (by kernel_rfl) asc)))) ⟨Nk,fun x=>(x.1.1,x.2.1)⟩ (fun x=>by kernel_rfl)
def asf(y:Int×(List M.aw)){R:Type}(k:KT R):R:=match y with|a0=>kk k (Ex.exit 0) Nl ((a0.1,()),(a0.2,()))
def asg:List (cF K (Int×(List M.aw))):=[⟨(Ex.exit 0),Nl,fun x=>(x.1.1,x.2.1)⟩]
def aaJ:bo K:=bA D true 51 1 [0,1,5] [1] aaK (fun x=>M.vj ae x.1.2.1 x.1.2.2.1 x.2.1) asf
def aaL(m:Int->(List M.aw)->Option (Int×(List M.aw))):az K:={f:=81,sh:=⟨[.own 0,.int .i64],[.tree U.Core]⟩,R:=Int×(List M.aw),run:=fun x=>m x.1.2.1 x.2.1,dflt:=default,out:=fun r=>(Sh.enc D (.int .i64) r.1,aU.encs D [.tree U.Core] (r.2,()))}
def Ih:Cx K:={dc with mode:=cV .plain [(77,.plain),(121,.pass)],deep:=fun c=>cQ (D.cells c (K.zero c)),opn:=true,call:=callOf D [kO M.dO,aaH M.B9],loop:=cP [(2,aaJ)]}
theorem aaM:aK Ih:=aO ak _ (af lH (af ase an))
theorem ash:bp Ih (bm (bw Tryz.f81) 0) aaJ:=bB (cx:=Ih) (sh:=aaK) (run:=fun n x=>M.vj n x.1.2.1 x.1.2.2.1 x.2.1) (bq:=asg) ak aaM aW (aE (by kernel_rfl)) (fun _=>rfl) (fun m x=>by kernel_rfl) (af ⟨bC,fun _ _ _=>rfl⟩ an) true ae
theorem asi:aj (aaL (M.Cb)):=aL (cx:=Ih) true aaM Tryz.func81 (aH (bH 1 (by kernel_rfl) (bI (.mk (by kernel_rfl) ash)))) ⟨Nl,fun x=>(x.1.1,x.2.1)⟩ (fun x=>by kernel_rfl)
def aaN(m:Int->Int->(List M.aM)->(List M.aw)->Option (Int×(List M.aM)×(List M.aw))):az K:={f:=41,sh:=⟨[.agg [.int .i64,.own 0,.own 1],.int .i64],[.arr U.Import,.tree U.Core]⟩,R:=Int×(List M.aM)×(List M.aw),run:=fun x=>m x.1.1.1 x.1.2.1 x.2.1 x.2.2.1,dflt:=default,out:=fun r=>(Sh.enc D (.int .i64) r.1,aU.encs D [.arr U.Import,.tree U.Core] (r.2.1,(r.2.2,())))}
def aaO:Cx K:={dc with mode:=cV .plain [(80,.pass),(81,.pass)],deep:=fun c=>cQ (D.cells c (K.zero c)),opn:=true,call:=callOf D [aaD M.B8,aaL M.Cb],loop:=cP []}
theorem asj:aK aaO:=aO ak _ (af ar9 (af asi an))
theorem asl:aj (aaN (M.Ii)):=aL (cx:=aaO) true asj Tryz.func41 (aH (aE (by kernel_rfl))) ⟨⟨[.int .i64],[.arr U.Import,.tree U.Core]⟩,fun x=>(x.1.1,x.2.1,x.2.2.1)⟩ (fun x=>by kernel_rfl)
def asn(y:Int×(List M.bk)){R:Type}(k:KT R):R:=match y with|a0=>kk k (Ex.exit 0) Nn ((a0.1,()),(a0.2,()))
def aso:List (cF K (Int×(List M.bk))):=[⟨(Ex.exit 0),Nn,fun x=>(x.1.1,x.2.1)⟩]
def aaP:bo K:=bA D true 37 1 [0,1,5] [1] aaQ (fun x=>M.vk ae x.1.2.1 x.1.2.2.1 x.2.1) asn
def aaR(m:Int->(List M.bk)->Option (Int×(List M.bk))):az K:={f:=42,sh:=⟨[.own 0,.int .i64],[.arr U.dA]⟩,R:=Int×(List M.bk),run:=fun x=>m x.1.2.1 x.2.1,dflt:=default,out:=fun r=>(Sh.enc D (.int .i64) r.1,aU.encs D [.arr U.dA] (r.2,()))}
def Ij:Cx K:={dc with mode:=cV .plain [(77,.plain)],deep:=fun c=>cQ (D.cells c (K.zero c)),opn:=true,call:=callOf D [kO M.dO],loop:=cP [(2,aaP)]}
theorem aaS:aK Ij:=aO ak _ (af lH an)
theorem asq:bp Ij (bm (bw Tryz.f42) 0) aaP:=bB (cx:=Ij) (sh:=aaQ) (run:=fun n x=>M.vk n x.1.2.1 x.1.2.2.1 x.2.1) (bq:=aso) ak aaS aW (aE (by kernel_rfl)) (fun _=>rfl) (fun m x=>by kernel_rfl) (af ⟨bC,fun _ _ _=>rfl⟩ an) true ae
theorem asr:aj (aaR (M.Cc)):=aL (cx:=Ij) true aaS Tryz.func42 (aH (bH 1 (by kernel_rfl) (bI (.mk (by kernel_rfl) asq)))) ⟨Nn,fun x=>(x.1.1,x.2.1)⟩ (fun x=>by kernel_rfl)
def ass(y:Int×(List M.bh)){R:Type}(k:KT R):R:=match y with|a0=>kk k (Ex.exit 0) Np ((a0.1,()),(a0.2,()))
def ast:List (cF K (Int×(List M.bh))):=[⟨(Ex.exit 0),Np,fun x=>(x.1.1,x.2.1)⟩]
def aaT:bo K:=bA D true 37 1 [0,1,5] [1] aaU (fun x=>M.vl ae x.1.2.1 x.1.2.2.1 x.2.1) ass
def aaV(m:Int->(List M.bh)->Option (Int×(List M.bh))):az K:={f:=43,sh:=⟨[.own 0,.int .i64],[.arr U.Lower]⟩,R:=Int×(List M.bh),run:=fun x=>m x.1.2.1 x.2.1,dflt:=default,out:=fun r=>(Sh.enc D (.int .i64) r.1,aU.encs D [.arr U.Lower] (r.2,()))}
def Ik:Cx K:={dc with mode:=cV .plain [(77,.plain)],deep:=fun c=>cQ (D.cells c (K.zero c)),opn:=true,call:=callOf D [kO M.dO],loop:=cP [(2,aaT)]}
theorem aaW:aK Ik:=aO ak _ (af lH an)
theorem asu:bp Ik (bm (bw Tryz.f43) 0) aaT:=bB (cx:=Ik) (sh:=aaU) (run:=fun n x=>M.vl n x.1.2.1 x.1.2.2.1 x.2.1) (bq:=ast) ak aaW aW (aE (by kernel_rfl)) (fun _=>rfl) (fun m x=>by kernel_rfl) (af ⟨bC,fun _ _ _=>rfl⟩ an) true ae
theorem asv:aj (aaV (M.Cd)):=aL (cx:=Ik) true aaW Tryz.func43 (aH (bH 1 (by kernel_rfl) (bI (.mk (by kernel_rfl) asu)))) ⟨Np,fun x=>(x.1.1,x.2.1)⟩ (fun x=>by kernel_rfl)
def asw(y:Int×(List M.bg)){R:Type}(k:KT R):R:=match y with|a0=>kk k (Ex.exit 0) Nq ((a0.1,()),(a0.2,()))
def asx:List (cF K (Int×(List M.bg))):=[⟨(Ex.exit 0),Nq,fun x=>(x.1.1,x.2.1)⟩]
def aaX:bo K:=bA D true 44 1 [0,1,5] [1] aaY (fun x=>M.vm ae x.1.2.1 x.1.2.2.1 x.2.1) asw
def aaZ(m:Int->(List M.bg)->Option (Int×(List M.bg))):az K:={f:=44,sh:=⟨[.own 0,.int .i64],[.arr U.Builtin]⟩,R:=Int×(List M.bg),run:=fun x=>m x.1.2.1 x.2.1,dflt:=default,out:=fun r=>(Sh.enc D (.int .i64) r.1,aU.encs D [.arr U.Builtin] (r.2,()))}
def Il:Cx K:={dc with mode:=cV .plain [(77,.plain)],deep:=fun c=>cQ (D.cells c (K.zero c)),opn:=true,call:=callOf D [kO M.dO],loop:=cP [(2,aaX)]}
theorem aa0:aK Il:=aO ak _ (af lH an)
theorem asy:bp Il (bm (bw Tryz.f44) 0) aaX:=bB (cx:=Il) (sh:=aaY) (run:=fun n x=>M.vm n x.1.2.1 x.1.2.2.1 x.2.1) (bq:=asx) ak aa0 aW (aE (by kernel_rfl)) (fun _=>rfl) (fun m x=>by kernel_rfl) (af ⟨bC,fun _ _ _=>rfl⟩ an) true ae
theorem asz:aj (aaZ (M.Ce)):=aL (cx:=Il) true aa0 Tryz.func44 (aH (bH 1 (by kernel_rfl) (bI (.mk (by kernel_rfl) asy)))) ⟨Nq,fun x=>(x.1.1,x.2.1)⟩ (fun x=>by kernel_rfl)
def aa1(m:(List UInt8)->(List UInt8)->Int->Int->Int->Int->(List M.ar)->(List M.ar)->(List M.aM)->(List M.aw)->(List M.bk)->(List M.bh)->(List M.bg)->Option (Int×(List M.ar)×(List M.ar)×(List M.aM)×(List M.aw)×(List M.bk)×(List M.bh)×(List M.bg))):az K:={f:=11,sh:=⟨[.agg [.str,.str,.own 0,.own 1,.int .i64,.int .i64,.int .i64,.own 2,.own 3,.own 4,.own 5,.own 6],.int .i64],[.tree U.aQ,.tree U.aQ,.arr U.Import,.tree U.Core,.arr U.dA,.arr U.Lower,.arr U.Builtin]⟩,R:=Int×(List M.ar)×(List M.ar)×(List M.aM)×(List M.aw)×(List M.bk)×(List M.bh)×(List M.bg),run:=fun x=>m x.1.1.1 x.1.1.2.1 x.1.1.2.2.2.2.1 x.1.1.2.2.2.2.2.1 x.1.1.2.2.2.2.2.2.1 x.1.2.1 x.2.1 x.2.2.1 x.2.2.2.1 x.2.2.2.2.1 x.2.2.2.2.2.1 x.2.2.2.2.2.2.1 x.2.2.2.2.2.2.2.1,dflt:=default,out:=fun r=>(Sh.enc D (.int .i64) r.1,aU.encs D [.tree U.aQ,.tree U.aQ,.arr U.Import,.tree U.Core,.arr U.dA,.arr U.Lower,.arr U.Builtin] (r.2.1,(r.2.2.1,(r.2.2.2.1,(r.2.2.2.2.1,(r.2.2.2.2.2.1,(r.2.2.2.2.2.2.1,(r.2.2.2.2.2.2.2,()))))))))}
def aa2:Cx K:={dc with mode:=cV .plain [(40,.pass),(41,.pass),(42,.pass),(43,.pass),(44,.pass)],deep:=fun c=>cQ (D.cells c (K.zero c)),opn:=true,call:=callOf D [aaz M.yq,aaN M.Ii,aaR M.Cc,aaV M.Cd,aaZ M.Ce],loop:=cP []}
theorem asA:aK aa2:=aO ak _ (af ar5 (af asl (af asr (af asv (af asz an)))))
theorem asB:aj (aa1 (M.Cf)):=aL (cx:=aa2) true asA Tryz.func11 (aH (aE (by kernel_rfl))) ⟨⟨[.int .i64],[.tree U.aQ,.tree U.aQ,.arr U.Import,.tree U.Core,.arr U.dA,.arr U.Lower,.arr U.Builtin]⟩,fun x=>(x.1.1,x.2.1,x.2.2.1,x.2.2.2.1,x.2.2.2.2.1,x.2.2.2.2.2.1,x.2.2.2.2.2.2.1,x.2.2.2.2.2.2.2.1)⟩ (fun x=>by kernel_rfl)
def aa3:bo K:=bA D false 22 0 [0,1,5] [1,4] yt (fun x=>M.vn x.1.1 ae x.1.2.1 x.1.2.2.1) lD
def Im(m:(List (List UInt8))->Int->Option Int):az K:=cI 83 xG (fun x=>m x.1.1 x.1.2.1)
def Io:Cx K:=aT [(77,.plain)] [kO M.dO] [(2,aa3)]
theorem aa4:aK Io:=aO ak _ (af lH an)
theorem asC:bp Io (bm (bw Tryz.f83) 0) aa3:=bB (cx:=Io) (sh:=yt) (run:=fun n x=>M.vn x.1.1 n x.1.2.1 x.1.2.2.1) (bq:=lE) ak aa4 aW (aE (by kernel_rfl)) (fun _=>rfl) (fun m x=>by kernel_rfl) (af ⟨cm,fun _ _ _=>rfl⟩ (af ⟨bC,fun _ _ _=>rfl⟩ an)) false ae
theorem Nr:aj (Im (M.qg)):=aL (cx:=Io) true aa4 Tryz.func83 (aH (bH 1 (by kernel_rfl) (bI (.mk (by kernel_rfl) asC)))) ⟨zs1,fun x=>x.1.1⟩ (fun x=>by kernel_rfl)
def asD(y:Int×(List UInt8)×Bool×Int×(List UInt8)×(List (List UInt8))×(List M.aa)×Bool×(List M.al)×(List (List UInt8))×(List M.aa)×(List M.al)){R:Type}(k:KT R):R:=match y with|a0=>kk k (Ex.exit 0) aa5 (((),((),())),((),(((),(a0.1,(a0.2.1,((),((),(a0.2.2.1,())))))),(((),(a0.2.2.2.1,(a0.2.2.2.2.1,(a0.2.2.2.2.2.1,(a0.2.2.2.2.2.2.1,(a0.2.2.2.2.2.2.2.1,())))))),((),((),((),((),(a0.2.2.2.2.2.2.2.2.1,(a0.2.2.2.2.2.2.2.2.2.1,(a0.2.2.2.2.2.2.2.2.2.2.1,(a0.2.2.2.2.2.2.2.2.2.2.2,()))))))))))))
def asE:List (cF K (Int×(List UInt8)×Bool×Int×(List UInt8)×(List (List UInt8))×(List M.aa)×Bool×(List M.al)×(List (List UInt8))×(List M.aa)×(List M.al))):=[⟨(Ex.exit 0),aa5,fun x=>(x.2.2.1.2.1,x.2.2.1.2.2.1,x.2.2.1.2.2.2.2.2.1,x.2.2.2.1.2.1,x.2.2.2.1.2.2.1,x.2.2.2.1.2.2.2.1,x.2.2.2.1.2.2.2.2.1,x.2.2.2.1.2.2.2.2.2.1,x.2.2.2.2.2.2.2.2.1,x.2.2.2.2.2.2.2.2.2.1,x.2.2.2.2.2.2.2.2.2.2.1,x.2.2.2.2.2.2.2.2.2.2.2.1)⟩]
def aa6:bo K:=bA D false 38 7 [1,2,3,4] [2,3] aa7 (fun x=>M.oD x.2.2.1.2.1 x.2.2.1.2.2.1 x.2.2.1.2.2.2.2.2.1 x.2.2.2.1.2.1 x.2.2.2.1.2.2.1 x.2.2.2.1.2.2.2.1 x.2.2.2.1.2.2.2.2.1 x.2.2.2.1.2.2.2.2.2.1 x.2.2.2.2.2.2.2.2.1 x.2.2.2.2.2.2.2.2.2.1 x.2.2.2.2.2.2.2.2.2.2.1 ae x.1.2.2.2.1 x.2.1 x.2.2.2.2.2.2.2.2.2.2.2.1) asD
def aa8(m:M.av->Option (M.av)):az K:={f:=24,sh:=lC,R:=M.av,run:=fun x=>m x.1.1,dflt:=default,out:=fun r=>(Sh.enc D (.el U.eK) r,aU.encs D [] ())}
def Ip:Cx K:=aT [(59,.ez)] [qa M.rO] [(3,aa6)]
theorem aa9:aK Ip:=aO ak _ (af V4 an)
theorem asF:bp Ip (bm (bw Tryz.f24) 0) aa6:=bB (cx:=Ip) (sh:=aa7) (run:=fun n x=>M.oD x.2.2.1.2.1 x.2.2.1.2.2.1 x.2.2.1.2.2.2.2.2.1 x.2.2.2.1.2.1 x.2.2.2.1.2.2.1 x.2.2.2.1.2.2.2.1 x.2.2.2.1.2.2.2.2.1 x.2.2.2.1.2.2.2.2.2.1 x.2.2.2.2.2.2.2.2.1 x.2.2.2.2.2.2.2.2.2.1 x.2.2.2.2.2.2.2.2.2.2.1 n x.1.2.2.2.1 x.2.1 x.2.2.2.2.2.2.2.2.2.2.2.1) (bq:=asE) ak aa9 aW (aE (by kernel_rfl)) (fun _=>rfl) (fun m x=>by kernel_rfl) (af ⟨bC,fun _ _ _=>rfl⟩ an) false ae
theorem asG:aj (aa8 (M.Ci)):=aL (cx:=Ip) true aa9 Tryz.func24 (aH (bH 1 (by kernel_rfl) (bI (.mk (by kernel_rfl) asF)))) ⟨lC,fun x=>x.1.1⟩ (fun x=>by kernel_rfl)
def aba:bo K:=bA D false 22 1 [1,2,5] [4] abb (fun x=>M.vo x.1.1 x.2.1 ae x.1.2.2.1) ME
def abd(m:M.ar->(List UInt8)->Option Int):az K:=cI 99 ⟨[.el U.aQ,.str],[]⟩ (fun x=>m x.1.1 x.1.2.1)
def Iq:Cx K:=aT [] [] [(2,aba)]
theorem abe:aK Iq:=aO ak _ an
theorem asH:bp Iq (bm (bw Tryz.f99) 0) aba:=bB (cx:=Iq) (sh:=abb) (run:=fun n x=>M.vo x.1.1 x.2.1 n x.1.2.2.1) (bq:=MF) ak abe aW (aE (by kernel_rfl)) (fun _=>rfl) (fun m x=>by kernel_rfl) (af ⟨cm,fun _ _ _=>rfl⟩ (af ⟨bC,fun _ _ _=>rfl⟩ an)) false ae
theorem asI:aj (abd (M.Cj)):=aL (cx:=Iq) true abe Tryz.func99 (aH (bH 1 (by kernel_rfl) (bI (.mk (by kernel_rfl) asH)))) ⟨zs1,fun x=>x.1.1⟩ (fun x=>by kernel_rfl)
def abf(m:(List M.ar)->(List UInt8)->(List UInt8)->Option (M.av×Bool)):az K:={f:=58,sh:=G9,R:=M.av×Bool,run:=fun x=>m x.1.1 x.1.2.1 x.1.2.2.1,dflt:=default,out:=fun r=>(Sh.enc D (.bT [.el U.eK,.bool]) (r.1,(r.2,())),aU.encs D [] ())}
def abg:Cx K:=aT [(98,.plain),(99,.plain)] [MO M.ux,abd M.Cj] []
theorem asJ:aK abg:=aO ak _ (af W4 (af asI an))
theorem asK:aj (abf (M.Cm)):=aL (cx:=abg) true asJ Tryz.func58 (aH (aE (by kernel_rfl))) ⟨Ns,fun x=>(x.1.1.1,x.1.1.2.1)⟩ (fun x=>by kernel_rfl)
def aDp(y:(Bool×(List UInt8)×(List UInt8)×(List M.ar)×(List M.ar)×Int×Int×Int×(List M.aM)×(List M.aw)×(List M.bk)×(List M.bh)×(List M.bg)×M.bh×M.av)⊕((List UInt8)×(List UInt8)×(List M.ar)×(List M.ar)×Int×Int×Int×(List M.aM)×(List M.aw)×(List M.bk)×(List M.bh)×(List M.bg)×M.bh×Int×(List UInt8)×Bool×(List M.al)×(List (List UInt8))×(List M.aa))){R:Type}(k:KT R):R:=match y with|.inl a0=>kk k Ex.ret abh (((),((),(a0.1,()))),((a0.2.1,(a0.2.2.1,(a0.2.2.2.1,(a0.2.2.2.2.1,(a0.2.2.2.2.2.1,(a0.2.2.2.2.2.2.1,(a0.2.2.2.2.2.2.2.1,(a0.2.2.2.2.2.2.2.2.1,(a0.2.2.2.2.2.2.2.2.2.1,(a0.2.2.2.2.2.2.2.2.2.2.1,(a0.2.2.2.2.2.2.2.2.2.2.2.1,(a0.2.2.2.2.2.2.2.2.2.2.2.2.1,())))))))))))),(a0.2.2.2.2.2.2.2.2.2.2.2.2.2.1,(a0.2.2.2.2.2.2.2.2.2.2.2.2.2.2,((),((),((),())))))))|.inr a1=>kk k (Ex.exit 0) abj (((),((),((),()))),((a1.1,(a1.2.1,(a1.2.2.1,(a1.2.2.2.1,(a1.2.2.2.2.1,(a1.2.2.2.2.2.1,(a1.2.2.2.2.2.2.1,(a1.2.2.2.2.2.2.2.1,(a1.2.2.2.2.2.2.2.2.1,(a1.2.2.2.2.2.2.2.2.2.1,(a1.2.2.2.2.2.2.2.2.2.2.1,(a1.2.2.2.2.2.2.2.2.2.2.2.1,())))))))))))),(a1.2.2.2.2.2.2.2.2.2.2.2.2.1,(((),(a1.2.2.2.2.2.2.2.2.2.2.2.2.2.1,(a1.2.2.2.2.2.2.2.2.2.2.2.2.2.2.1,((),((),(a1.2.2.2.2.2.2.2.2.2.2.2.2.2.2.2.1,())))))),((),((),((),(a1.2.2.2.2.2.2.2.2.2.2.2.2.2.2.2.2.1,(a1.2.2.2.2.2.2.2.2.2.2.2.2.2.2.2.2.2.1,(a1.2.2.2.2.2.2.2.2.2.2.2.2.2.2.2.2.2.2,()))))))))))
def aDq:List (cF K ((Bool×(List UInt8)×(List UInt8)×(List M.ar)×(List M.ar)×Int×Int×Int×(List M.aM)×(List M.aw)×(List M.bk)×(List M.bh)×(List M.bg)×M.bh×M.av)⊕((List UInt8)×(List UInt8)×(List M.ar)×(List M.ar)×Int×Int×Int×(List M.aM)×(List M.aw)×(List M.bk)×(List M.bh)×(List M.bg)×M.bh×Int×(List UInt8)×Bool×(List M.al)×(List (List UInt8))×(List M.aa)))):=[⟨Ex.ret,abh,fun x=>.inl (x.1.2.2.1,x.2.1.1,x.2.1.2.1,x.2.1.2.2.1,x.2.1.2.2.2.1,x.2.1.2.2.2.2.1,x.2.1.2.2.2.2.2.1,x.2.1.2.2.2.2.2.2.1,x.2.1.2.2.2.2.2.2.2.1,x.2.1.2.2.2.2.2.2.2.2.1,x.2.1.2.2.2.2.2.2.2.2.2.1,x.2.1.2.2.2.2.2.2.2.2.2.2.1,x.2.1.2.2.2.2.2.2.2.2.2.2.2.1,x.2.2.1,x.2.2.2.1)⟩,⟨(Ex.exit 0),abj,fun x=>.inr ((x.2.1.1,x.2.1.2.1,x.2.1.2.2.1,x.2.1.2.2.2.1,x.2.1.2.2.2.2.1,x.2.1.2.2.2.2.2.1,x.2.1.2.2.2.2.2.2.1,x.2.1.2.2.2.2.2.2.2.1,x.2.1.2.2.2.2.2.2.2.2.1,x.2.1.2.2.2.2.2.2.2.2.2.1,x.2.1.2.2.2.2.2.2.2.2.2.2.1,x.2.1.2.2.2.2.2.2.2.2.2.2.2.1,x.2.2.1,x.2.2.2.1.2.1,x.2.2.2.1.2.2.1,x.2.2.2.1.2.2.2.2.2.1,x.2.2.2.2.2.2.2.1,x.2.2.2.2.2.2.2.2.1,x.2.2.2.2.2.2.2.2.2.1))⟩]
def aiD:bo K:=bA D false 64 6 [0,1,4,5,7] [4,5,6] abl (fun x=>M.acg x.1.2.1 x.2.1 x.2.2.1 x.2.2.2.1.2.1 x.2.2.2.1.2.2.1 x.2.2.2.1.2.2.2.2.2.1 x.2.2.2.2.2.2.2.1 x.2.2.2.2.2.2.2.2.1 x.2.2.2.2.2.2.2.2.2.1 ae x.1.2.2.2.2.1) aDp
def ajF(m:(List UInt8)->M.aX->Option (M.bh×M.av×Bool×M.aX)):az K:={f:=49,sh:=⟨[.ptr 0 0,.str],[.el U.eL]⟩,R:=M.bh×M.av×Bool×M.aX,run:=fun x=>m x.1.2.1 x.2.1,dflt:=default,out:=fun r=>(Sh.enc D (.bT [.el U.Lower,.el U.eK,.bool]) (r.1,(r.2.1,(r.2.2.1,()))),aU.encs D [.el U.eL] (r.2.2.2,()))}
def ahl:Cx K:=aT [(58,.ez)] [abf M.Cm] [(2,aiD)]
theorem ajG:aK ahl:=aO ak _ (af asK an)
theorem aDr:bp ahl (bm (bw Tryz.f49) 0) aiD:=bB (cx:=ahl) (sh:=abl) (run:=fun n x=>M.acg x.1.2.1 x.2.1 x.2.2.1 x.2.2.2.1.2.1 x.2.2.2.1.2.2.1 x.2.2.2.1.2.2.2.2.2.1 x.2.2.2.2.2.2.2.1 x.2.2.2.2.2.2.2.2.1 x.2.2.2.2.2.2.2.2.2.1 n x.1.2.2.2.2.1) (bq:=aDq) ak ajG aW (aE (by kernel_rfl)) (fun _=>rfl) (fun m x=>by kernel_rfl) (af ⟨cm,fun _ _ _=>rfl⟩ (af ⟨bC,fun _ _ _=>rfl⟩ an)) false ae
theorem aDs:aj (ajF (M.agW)):=aL (cx:=ahl) true ajG Tryz.func49 (aH (bH 1 (by kernel_rfl) (bI (.mk (by kernel_rfl) aDr)))) ⟨⟨[.bT [.el U.Lower,.el U.eK,.bool]],[.el U.eL]⟩,fun x=>(x.1.1.1,x.1.1.2.1,x.1.1.2.2.1,x.2.1)⟩ (fun x=>by kernel_rfl)
def ajI(m:M.aX->(List UInt8)->Option (M.bh×M.av×Bool)):az K:={f:=14,sh:=Is,R:=M.bh×M.av×Bool,run:=fun x=>m x.1.1 x.1.2.1,dflt:=default,out:=fun r=>(Sh.enc D (.bT [.el U.Lower,.el U.eK,.bool]) (r.1,(r.2.1,(r.2.2,()))),aU.encs D [] ())}
def ajQ:Cx K:=aT [(22,.plain),(49,.pass),(24,.ez)] [Xz M.Ar,ajF M.agW,aa8 M.Ci] []
theorem aDt:aK ajQ:=aO ak _ (af apI (af aDs (af asG an)))
theorem aDu:aj (ajI (M.ahg)):=aL (cx:=ajQ) true aDt Tryz.func14 (aH (aE (by kernel_rfl))) ⟨abq,fun x=>(x.1.1.1,x.1.1.2.1,x.1.1.2.2.1)⟩ (fun x=>by kernel_rfl)
def oH(m:M.aa->Option (Int×(List UInt8)×(List (List UInt8))×(List M.aa))):az K:={f:=68,sh:=iv,R:=Int×(List UInt8)×(List (List UInt8))×(List M.aa),run:=fun x=>m x.1.1,dflt:=default,out:=fun r=>(Sh.enc D (.agg [.int .i64,.str,.own 0,.own 1]) (r.1,(r.2.1,((),((),())))),aU.encs D [.arr U.str,.tree U.Type] (r.2.2.1,(r.2.2.2,())))}
def abr(ei:M.aa->Option (Int×(List UInt8)×(List (List UInt8))×(List M.aa))):bo K:=bA D false 20 1 [3,7,8,9] [3] abt (fun x=>M.vp ei x.1.2.1 x.1.2.2.1 ae x.1.2.2.2.1 x.2.2.1) ZG
def abu(m:(List M.aa)->Option ((List M.aa))):az K:={f:=117,sh:=lF,R:=(List M.aa),run:=fun x=>m x.1.1,dflt:=default,out:=fun r=>(Sh.enc D (.own 0) (),aU.encs D [.tree U.Type] (r,()))}
def It(ei:M.aa->Option (Int×(List UInt8)×(List (List UInt8))×(List M.aa))):Cx K:={dc with mode:=cV .plain [(68,.fresh)],eJ:=[[some U.Type]],deep:=fun c=>cQ (D.cells c (K.zero c)),call:=callOf D [oH ei],loop:=cP [(3,abr ei)]}
theorem abv(ei:M.aa->Option (Int×(List UInt8)×(List (List UInt8))×(List M.aa)))(oI:aj (oH ei)):aK (It ei):=aO ak _ (af oI an)
theorem asR(ei:M.aa->Option (Int×(List UInt8)×(List (List UInt8))×(List M.aa)))(oI:aj (oH ei)):bp (It ei) (bm (bw Tryz.f117) 0) (abr ei):=bB (cx:=It ei) (sh:=abt) (run:=fun n x=>M.vp ei x.1.2.1 x.1.2.2.1 n x.1.2.2.2.1 x.2.2.1) (bq:=ZI) ak (abv ei oI) aW (aE (by kernel_rfl)) (fun _=>rfl) (fun m x=>by kernel_rfl) (af ⟨bC,fun _ _ _=>rfl⟩ an) false ae
theorem asT(ei:M.aa->Option (Int×(List UInt8)×(List (List UInt8))×(List M.aa)))(oI:aj (oH ei)):aj (abu (M.CE ei)):=fb (cx:=It ei) (fz:=false) ak (abv ei oI) aW ⟨Tryz.func117,by kernel_rfl⟩ (aH (bH 1 (by kernel_rfl) (bI (.mk (by kernel_rfl) (asR ei oI))))) ⟨⟨[.own 0],[.tree U.Type]⟩,fun x=>x.2.1⟩ (fun x=>rfl) (fun x=>by kernel_rfl)
def abw(ei:M.aa->Option (Int×(List UInt8)×(List (List UInt8))×(List M.aa))):Cx K:={dc with mode:=cV .plain [(116,.fresh),(117,.fresh)],eJ:=[[none,none,some U.str,some U.Type]],deep:=fun c=>cQ (D.cells c (K.zero c)),call:=callOf D [Nu M.sx,abu (M.CE ei)],loop:=cP []}
theorem asU(ei:M.aa->Option (Int×(List UInt8)×(List (List UInt8))×(List M.aa)))(oI:aj (oH ei)):aK (abw ei):=aO ak _ (af asV (af (asT ei oI) an))
theorem asW(ei:M.aa->Option (Int×(List UInt8)×(List (List UInt8))×(List M.aa)))(oI:aj (oH ei)):aj (oH (M.Iu ei)):=fb (cx:=abw ei) (fz:=false) ak (asU ei oI) aW ⟨Tryz.func68,by kernel_rfl⟩ (aH (aE (by kernel_rfl))) ⟨ZO,fun x=>(x.1.1.1,x.1.1.2.1,x.2.1,x.2.2.1)⟩ (fun x=>rfl) (fun x=>by kernel_rfl)
theorem abx:∀n,aj (oH (M.sy n))|0=>ic fun _=>rfl|n+1=>asW (M.sy n) (abx n)
theorem asX:aj (oH (M.CG)):=abx ae
def aby(m:M.aD->(List UInt8)->Option Bool):az K:=cB 150 ⟨[.el U.Func,.rp U.str 0],[]⟩ (fun x=>m x.1.1 x.1.2.1)
theorem asY:aj (aby (M.abz)):=aL (cx:=dU) true dZ Tryz.func150 (aH (aE (by kernel_rfl))) ⟨zs0,fun x=>x.1.1⟩ (fun x=>by kernel_rfl)
def abA:bo K:=bA D false 19 0 [0,1,7,8] [4] abB (fun x=>M.vq x.1.1 x.1.2.1.1 x.1.2.2.1 ae x.1.2.2.2.1) iJ
def abC(m:(List M.aD)->(List UInt8)->Option Int):az K:=cI 149 ⟨[.ah U.Func,.fn 150 [.rp U.str 0]],[]⟩ (fun x=>m x.1.1 x.1.2.1.1)
def Iw:Cx K:=aT [(150,.plain)] [aby M.abz] [(2,abA)]
theorem abD:aK Iw:=aO ak _ (af asY an)
theorem asZ:bp Iw (bm (bw Tryz.f149) 0) abA:=bB (cx:=Iw) (sh:=abB) (run:=fun n x=>M.vq x.1.1 x.1.2.1.1 x.1.2.2.1 n x.1.2.2.2.1) (bq:=iK) ak abD aW (aE (by kernel_rfl)) (fun _=>rfl) (fun m x=>by kernel_rfl) (af ⟨cm,fun _ _ _=>rfl⟩ (af ⟨bC,fun _ _ _=>rfl⟩ an)) false ae
theorem as1:aj (abC (M.Ix)):=aL (cx:=Iw) true abD Tryz.func149 (aH (bH 1 (by kernel_rfl) (bI (.mk (by kernel_rfl) asZ)))) ⟨zs1,fun x=>x.1.1⟩ (fun x=>by kernel_rfl)
def abE(m:M.ar->(List UInt8)->Option (M.av×Bool)):az K:={f:=115,sh:=⟨[.el U.aQ,.str],[]⟩,R:=M.av×Bool,run:=fun x=>m x.1.1 x.1.2.1,dflt:=default,out:=fun r=>(Sh.enc D (.bT [.el U.eK,.bool]) (r.1,(r.2,())),aU.encs D [] ())}
def abG:Cx K:=aT [(149,.plain)] [abC M.Ix] []
theorem as2:aK abG:=aO ak _ (af as1 an)
theorem as3:aj (abE (M.CH)):=aL (cx:=abG) true as2 Tryz.func115 (aH (aE (by kernel_rfl))) ⟨Ns,fun x=>(x.1.1.1,x.1.1.2.1)⟩ (fun x=>by kernel_rfl)
def abH(m:(List M.ar)->(List UInt8)->(List UInt8)->Option (M.av×Bool)):az K:={f:=67,sh:=G9,R:=M.av×Bool,run:=fun x=>m x.1.1 x.1.2.1 x.1.2.2.1,dflt:=default,out:=fun r=>(Sh.enc D (.bT [.el U.eK,.bool]) (r.1,(r.2,())),aU.encs D [] ())}
def abI:Cx K:=aT [(114,.ez),(115,.ez)] [M5 M.uv,abE M.CH] []
theorem as4:aK abI:=aO ak _ (af Zm (af as3 an))
theorem as5:aj (abH (M.CJ)):=aL (cx:=abI) true as4 Tryz.func67 (aH (aE (by kernel_rfl))) ⟨Ns,fun x=>(x.1.1.1,x.1.1.2.1)⟩ (fun x=>by kernel_rfl)
def ata(y:Int×(List UInt8)×Bool×Int×(List UInt8)×Bool×(List M.al)×(List (List UInt8))×(List M.aa)×(List M.al)×(List (List UInt8))×(List M.aa)){R:Type}(k:KT R):R:=match y with|a0=>kk k (Ex.exit 0) abJ (((),((),())),(((),(a0.1,(a0.2.1,((),((),(a0.2.2.1,())))))),(((),(a0.2.2.2.1,(a0.2.2.2.2.1,((),((),(a0.2.2.2.2.2.1,())))))),((),((),((),((),((),((),(a0.2.2.2.2.2.2.1,(a0.2.2.2.2.2.2.2.1,(a0.2.2.2.2.2.2.2.2.1,(a0.2.2.2.2.2.2.2.2.2.1,(a0.2.2.2.2.2.2.2.2.2.2.1,(a0.2.2.2.2.2.2.2.2.2.2.2,())))))))))))))))
def atb:List (cF K (Int×(List UInt8)×Bool×Int×(List UInt8)×Bool×(List M.al)×(List (List UInt8))×(List M.aa)×(List M.al)×(List (List UInt8))×(List M.aa))):=[⟨(Ex.exit 0),abJ,fun x=>(x.2.1.2.1,x.2.1.2.2.1,x.2.1.2.2.2.2.2.1,x.2.2.1.2.1,x.2.2.1.2.2.1,x.2.2.1.2.2.2.2.2.1,x.2.2.2.2.2.2.2.2.2.1,x.2.2.2.2.2.2.2.2.2.2.1,x.2.2.2.2.2.2.2.2.2.2.2.1,x.2.2.2.2.2.2.2.2.2.2.2.2.1,x.2.2.2.2.2.2.2.2.2.2.2.2.2.1,x.2.2.2.2.2.2.2.2.2.2.2.2.2.2.1)⟩]
def abQ:bo K:=bA D false 32 8 [2,3,13,14,15] [2,3] abK (fun x=>M.vt x.1.2.2.1 x.1.2.2.2.1 x.2.1.2.1 x.2.1.2.2.1 x.2.1.2.2.2.2.2.1 x.2.2.1.2.1 x.2.2.1.2.2.1 x.2.2.1.2.2.2.2.2.1 x.2.2.2.2.2.2.2.2.2.1 x.2.2.2.2.2.2.2.2.2.2.1 x.2.2.2.2.2.2.2.2.2.2.2.1 x.2.2.2.2.2.2.2.2.2.2.2.2.2.1 x.2.2.2.2.2.2.2.2.2.2.2.2.2.2.1 ae x.1.2.2.2.2.1 x.2.2.2.2.2.2.2.2.2.2.2.2.1) ata
def abS(m:M.av->Option (Int×(List UInt8)×Bool×(List M.al)×(List (List UInt8))×(List M.aa))):az K:={f:=32,sh:=lC,R:=Int×(List UInt8)×Bool×(List M.al)×(List (List UInt8))×(List M.aa),run:=fun x=>m x.1.1,dflt:=default,out:=fun r=>(Sh.enc D (.agg [.own 0,.int .i64,.str,.own 1,.own 2,.bool]) ((),(r.1,(r.2.1,((),((),(r.2.2.1,())))))),aU.encs D [.tree U.Param,.arr U.str,.tree U.Type] (r.2.2.2.1,(r.2.2.2.2.1,(r.2.2.2.2.2,()))))}
def Iz:Cx K:={dc with mode:=cV .plain [(68,.fresh)],eJ:=[[some U.Param,none,none,some U.str,some U.Type,none]],deep:=fun c=>cQ (D.cells c (K.zero c)),call:=callOf D [oH M.CG],loop:=cP [(3,abQ)]}
theorem abT:aK Iz:=aO ak _ (af asX an)
theorem atc:bp Iz (bm (bw Tryz.f32) 0) abQ:=bB (cx:=Iz) (sh:=abK) (run:=fun n x=>M.vt x.1.2.2.1 x.1.2.2.2.1 x.2.1.2.1 x.2.1.2.2.1 x.2.1.2.2.2.2.2.1 x.2.2.1.2.1 x.2.2.1.2.2.1 x.2.2.1.2.2.2.2.2.1 x.2.2.2.2.2.2.2.2.2.1 x.2.2.2.2.2.2.2.2.2.2.1 x.2.2.2.2.2.2.2.2.2.2.2.1 x.2.2.2.2.2.2.2.2.2.2.2.2.2.1 x.2.2.2.2.2.2.2.2.2.2.2.2.2.2.1 n x.1.2.2.2.2.1 x.2.2.2.2.2.2.2.2.2.2.2.2.1) (bq:=atb) ak abT aW (aE (by kernel_rfl)) (fun _=>rfl) (fun m x=>by kernel_rfl) (af ⟨bC,fun _ _ _=>rfl⟩ an) false ae
theorem atd:aj (abS (M.CM)):=aL (cx:=Iz) false abT Tryz.func32 (aH (bH 1 (by kernel_rfl) (bI (.mk (by kernel_rfl) atc)))) ⟨ZZ,fun x=>(x.1.1.2.1,x.1.1.2.2.1,x.1.1.2.2.2.2.2.1,x.2.1,x.2.2.1,x.2.2.2.1)⟩ (fun x=>by kernel_rfl)
def abW(m:Int->(List UInt8)->Int->(List (List UInt8))->(List M.aa)->Option (Int×(List (List UInt8))×(List M.aa))):az K:={f:=46,sh:=⟨[.agg [.int .i64,.str,.own 0,.own 1],.int .i64],[.arr U.str,.tree U.Type]⟩,R:=Int×(List (List UInt8))×(List M.aa),run:=fun x=>m x.1.1.1 x.1.1.2.1 x.1.2.1 x.2.1 x.2.2.1,dflt:=default,out:=fun r=>(Sh.enc D (.int .i64) r.1,aU.encs D [.arr U.str,.tree U.Type] (r.2.1,(r.2.2,())))}
def abX:Cx K:={dc with mode:=cV .plain [(78,.pass),(82,.pass)],deep:=fun c=>cQ (D.cells c (K.zero c)),opn:=true,call:=callOf D [yn M.jG,ow M.oz],loop:=cP []}
theorem atg:aK abX:=aO ak _ (af B6 (af Na an))
theorem ath:aj (abW (M.CO)):=aL (cx:=abX) true atg Tryz.func46 (aH (aE (by kernel_rfl))) ⟨⟨[.int .i64],[.arr U.str,.tree U.Type]⟩,fun x=>(x.1.1,x.2.1,x.2.2.1)⟩ (fun x=>by kernel_rfl)
def abY(m:Int->(List UInt8)->Bool->Int->(List M.al)->(List (List UInt8))->(List M.aa)->Option (Int×(List M.al)×(List (List UInt8))×(List M.aa))):az K:={f:=12,sh:=⟨[.agg [.own 0,.int .i64,.str,.own 1,.own 2,.bool],.int .i64],[.tree U.Param,.arr U.str,.tree U.Type]⟩,R:=Int×(List M.al)×(List (List UInt8))×(List M.aa),run:=fun x=>m x.1.1.2.1 x.1.1.2.2.1 x.1.1.2.2.2.2.2.1 x.1.2.1 x.2.1 x.2.2.1 x.2.2.2.1,dflt:=default,out:=fun r=>(Sh.enc D (.int .i64) r.1,aU.encs D [.tree U.Param,.arr U.str,.tree U.Type] (r.2.1,(r.2.2.1,(r.2.2.2,()))))}
def abZ:Cx K:={dc with mode:=cV .plain [(45,.pass),(46,.pass)],deep:=fun c=>cQ (D.cells c (K.zero c)),opn:=true,call:=callOf D [Nc M.qf,abW M.CO],loop:=cP []}
theorem ati:aK abZ:=aO ak _ (af aas (af ath an))
theorem atj:aj (abY (M.CP)):=aL (cx:=abZ) true ati Tryz.func12 (aH (aE (by kernel_rfl))) ⟨⟨[.int .i64],[.tree U.Param,.arr U.str,.tree U.Type]⟩,fun x=>(x.1.1,x.2.1,x.2.2.1,x.2.2.2.1)⟩ (fun x=>by kernel_rfl)
def qh(m:(List M.aa)->Int->Option Int):az K:=cI 84 GQ (fun x=>m x.1.1 x.1.2.1)
def ab1(fF:(List M.aa)->Int->Option Int):bo K:=bA D false 50 0 [0,1,5] [1,4] IA (fun x=>M.vu fF x.1.1 ae x.1.2.1 x.1.2.2.1) lD
def IB(fF:(List M.aa)->Int->Option Int):Cx K:=aT [(77,.plain),(83,.plain),(84,.plain)] [kO M.dO,Im M.qg,qh fF] [(2,ab1 fF)]
theorem ab2(fF:(List M.aa)->Int->Option Int)(yu:aj (qh fF)):aK (IB fF):=aO ak _ (af lH (af Nr (af yu an)))
theorem atl(fF:(List M.aa)->Int->Option Int)(yu:aj (qh fF)):bp (IB fF) (bm (bw Tryz.f84) 0) (ab1 fF):=bB (cx:=IB fF) (sh:=IA) (run:=fun n x=>M.vu fF x.1.1 n x.1.2.1 x.1.2.2.1) (bq:=lE) ak (ab2 fF yu) aW (aE (by kernel_rfl)) (fun _=>rfl) (fun m x=>by kernel_rfl) (af ⟨cm,fun _ _ _=>rfl⟩ (af ⟨bC,fun _ _ _=>rfl⟩ an)) false ae
theorem atm(fF:(List M.aa)->Int->Option Int)(yu:aj (qh fF)):aj (qh (M.IC fF)):=fb (cx:=IB fF) (fz:=true) ak (ab2 fF yu) aW ⟨Tryz.func84,by kernel_rfl⟩ (aH (bH 1 (by kernel_rfl) (bI (.mk (by kernel_rfl) (atl fF yu))))) ⟨zs1,fun x=>x.1.1⟩ (fun x=>rfl) (fun x=>by kernel_rfl)
theorem ab3:∀n,aj (qh (M.vv n))|0=>ic fun _=>rfl|n+1=>atm (M.vv n) (ab3 n)
theorem ab4:aj (qh (M.vx)):=ab3 ae
def ab5:bo K:=bA D false 64 0 [0,1,5] [1,4] ID (fun x=>M.vy x.1.1 ae x.1.2.1 x.1.2.2.1) lD
def ab6(m:(List M.al)->Int->Option Int):az K:=cI 47 ⟨[.ah U.Param,.int .i64],[]⟩ (fun x=>m x.1.1 x.1.2.1)
def IE:Cx K:=aT [(77,.plain),(83,.plain),(84,.plain)] [kO M.dO,Im M.qg,qh M.vx] [(2,ab5)]
theorem ab7:aK IE:=aO ak _ (af lH (af Nr (af ab4 an)))
theorem atn:bp IE (bm (bw Tryz.f47) 0) ab5:=bB (cx:=IE) (sh:=ID) (run:=fun n x=>M.vy x.1.1 n x.1.2.1 x.1.2.2.1) (bq:=lE) ak ab7 aW (aE (by kernel_rfl)) (fun _=>rfl) (fun m x=>by kernel_rfl) (af ⟨cm,fun _ _ _=>rfl⟩ (af ⟨bC,fun _ _ _=>rfl⟩ an)) false ae
theorem ato:aj (ab6 (M.CQ)):=aL (cx:=IE) true ab7 Tryz.func47 (aH (bH 1 (by kernel_rfl) (bI (.mk (by kernel_rfl) atn)))) ⟨zs1,fun x=>x.1.1⟩ (fun x=>by kernel_rfl)
def ab8(m:M.aa->Int->Option Int):az K:=cI 48 CS (fun x=>m x.1.1 x.1.2.1)
def ab9:Cx K:=aT [(83,.plain),(84,.plain)] [Im M.qg,qh M.vx] []
theorem atp:aK ab9:=aO ak _ (af Nr (af ab4 an))
theorem atq:aj (ab8 (M.CU)):=aL (cx:=ab9) true atp Tryz.func48 (aH (aE (by kernel_rfl))) ⟨zs1,fun x=>x.1.1⟩ (fun x=>by kernel_rfl)
def aca(m:M.av->Int->Option Int):az K:=cI 13 ⟨[.el U.eK,.int .i64],[]⟩ (fun x=>m x.1.1 x.1.2.1)
def acb:Cx K:=aT [(47,.plain),(48,.plain)] [ab6 M.CQ,ab8 M.CU] []
theorem atr:aK acb:=aO ak _ (af ato (af atq an))
theorem att:aj (aca (M.CV)):=aL (cx:=acb) true atr Tryz.func13 (aH (aE (by kernel_rfl))) ⟨zs1,fun x=>x.1.1⟩ (fun x=>by kernel_rfl)
def aDv(y:(Bool×M.bh×M.av)⊕(M.bh×Int×(List UInt8)×Bool×(List M.al)×(List (List UInt8))×(List M.aa))){R:Type}(k:KT R):R:=match y with|.inl a0=>kk k Ex.ret abM (((),((),(a0.1,()))),((),(a0.2.1,(a0.2.2,((),((),((),())))))))|.inr a1=>kk k (Ex.exit 0) abP (((),((),((),()))),((),(a1.1,(((),(a1.2.1,(a1.2.2.1,((),((),(a1.2.2.2.1,())))))),((),((),((),(a1.2.2.2.2.1,(a1.2.2.2.2.2.1,(a1.2.2.2.2.2.2,()))))))))))
def aDw:List (cF K ((Bool×M.bh×M.av)⊕(M.bh×Int×(List UInt8)×Bool×(List M.al)×(List (List UInt8))×(List M.aa)))):=[⟨Ex.ret,abM,fun x=>.inl (x.1.2.2.1,x.2.2.1,x.2.2.2.1)⟩,⟨(Ex.exit 0),abP,fun x=>.inr ((x.2.2.1,x.2.2.2.1.2.1,x.2.2.2.1.2.2.1,x.2.2.2.1.2.2.2.2.2.1,x.2.2.2.2.2.2.2.1,x.2.2.2.2.2.2.2.2.1,x.2.2.2.2.2.2.2.2.2.1))⟩]
def ajX:bo K:=bA D false 37 6 [1,2,4,5,12,13,14] [4,5,6] abR (fun x=>M.agU x.1.1 x.1.2.2.2.2.1 x.1.2.2.2.2.2.1 x.2.1 x.2.2.1 x.2.2.2.1.2.1 x.2.2.2.1.2.2.1 x.2.2.2.1.2.2.2.2.2.1 x.2.2.2.2.2.2.2.1 x.2.2.2.2.2.2.2.2.1 x.2.2.2.2.2.2.2.2.2.1 ae x.1.2.2.2.2.2.2.1) aDv
def akz(m:M.aX->(List UInt8)->Option (M.bh×M.av×Bool)):az K:={f:=50,sh:=Is,R:=M.bh×M.av×Bool,run:=fun x=>m x.1.1 x.1.2.1,dflt:=default,out:=fun r=>(Sh.enc D (.bT [.el U.Lower,.el U.eK,.bool]) (r.1,(r.2.1,(r.2.2,()))),aU.encs D [] ())}
def ahm:Cx K:=aT [(67,.ez)] [abH M.CJ] [(2,ajX)]
theorem akN:aK ahm:=aO ak _ (af as5 an)
theorem aDx:bp ahm (bm (bw Tryz.f50) 0) ajX:=bB (cx:=ahm) (sh:=abR) (run:=fun n x=>M.agU x.1.1 x.1.2.2.2.2.1 x.1.2.2.2.2.2.1 x.2.1 x.2.2.1 x.2.2.2.1.2.1 x.2.2.2.1.2.2.1 x.2.2.2.1.2.2.2.2.2.1 x.2.2.2.2.2.2.2.1 x.2.2.2.2.2.2.2.2.1 x.2.2.2.2.2.2.2.2.2.1 n x.1.2.2.2.2.2.2.1) (bq:=aDw) ak akN aW (aE (by kernel_rfl)) (fun _=>rfl) (fun m x=>by kernel_rfl) (af ⟨cm,fun _ _ _=>rfl⟩ (af ⟨bC,fun _ _ _=>rfl⟩ an)) false ae
theorem aDy:aj (akz (M.ahh)):=aL (cx:=ahm) true akN Tryz.func50 (aH (bH 1 (by kernel_rfl) (bI (.mk (by kernel_rfl) aDx)))) ⟨abq,fun x=>(x.1.1.1,x.1.1.2.1,x.1.1.2.2.1)⟩ (fun x=>by kernel_rfl)
def akP(m:M.aX->(List UInt8)->Option (M.bh×Int×(List UInt8)×Bool×Bool×(List M.al)×(List (List UInt8))×(List M.aa))):az K:={f:=15,sh:=Is,R:=M.bh×Int×(List UInt8)×Bool×Bool×(List M.al)×(List (List UInt8))×(List M.aa),run:=fun x=>m x.1.1 x.1.2.1,dflt:=default,out:=fun r=>(Sh.enc D (.bT [.el U.Lower,.agg [.own 0,.int .i64,.str,.own 1,.own 2,.bool],.bool]) (r.1,(((),(r.2.1,(r.2.2.1,((),((),(r.2.2.2.1,())))))),(r.2.2.2.2.1,()))),aU.encs D [.tree U.Param,.arr U.str,.tree U.Type] (r.2.2.2.2.2.1,(r.2.2.2.2.2.2.1,(r.2.2.2.2.2.2.2,()))))}
def akQ:Cx K:={dc with mode:=cV .plain [(30,.plain),(50,.ez),(32,.fresh)],eJ:=[[],[some U.Param,none,none,some U.str,some U.Type,none],[]],deep:=fun c=>cQ (D.cells c (K.zero c)),call:=callOf D [ZA M.As,akz M.ahh,abS M.CM],loop:=cP []}
theorem aDz:aK akQ:=aO ak _ (af ard (af aDy (af atd an)))
theorem aDA:aj (akP (M.ahi)):=aL (cx:=akQ) false aDz Tryz.func15 (aH (aE (by kernel_rfl))) ⟨⟨[.bT [.el U.Lower,.agg [.own 0,.int .i64,.str,.own 1,.own 2,.bool],.bool]],[.tree U.Param,.arr U.str,.tree U.Type]⟩,fun x=>(x.1.1.1,x.1.1.2.1.2.1,x.1.1.2.1.2.2.1,x.1.1.2.1.2.2.2.2.2.1,x.1.1.2.2.1,x.2.1,x.2.2.1,x.2.2.2.1)⟩ (fun x=>by kernel_rfl)
def akU(m:M.aX->(List UInt8)->Option Bool):az K:=cB 4 Is (fun x=>m x.1.1 x.1.2.1)
def akV:Cx K:={dc with mode:=cV .plain [(5,.plain),(7,.fresh),(14,.ez),(15,.fresh),(16,.plain),(9,.plain),(10,.plain),(11,.pass),(12,.pass),(13,.plain)],deep:=fun c=>cQ (D.cells c (K.zero c)),call:=callOf D [Vb M.A6,aad M.B5,ajI M.ahg,akP M.ahi,XG M.BF,Md M.uO,XQ M.BK,aa1 M.Cf,abY M.CP,aca M.CV],loop:=cP []}
theorem aDB:aK akV:=aO ak _ (af an6 (af arJ (af aDu (af aDA (af apM (af UH (af apU (af asB (af atj (af att an))))))))))
theorem aDC:aj (akU (M.ahj)):=aL (cx:=akV) true aDB Tryz.func4 (aH (aE (by kernel_rfl))) ⟨zs0,fun x=>x.1.1⟩ (fun x=>by kernel_rfl)
