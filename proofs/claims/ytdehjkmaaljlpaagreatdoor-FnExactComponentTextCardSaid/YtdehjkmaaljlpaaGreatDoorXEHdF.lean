/-
  The contract of strings.Fields at plain bytes.
-/
import Derived.Test.YtdehjkmaaljlpaaGreatDoorXEhandJ
import Derived.Test.YtdehjkmaaljlpaaGreatDoorXEHdV
import Derived.Shelf.Strings.Fields
import Derived.Ground.NamesProg
import Derived.Shelf.Abstract
import Derived.Test.YtdehjkmaaljlpaaGreatDoorProg
set_option linter.unusedVariables false
noncomputable def NB(m:List UInt8->Option (List (List UInt8))):Go.V.ax Go.V.K:={f:=195,sh:=⟨[.str],[]⟩,R:=List (List UInt8),run:=fun x=>m x.1.1,dflt:=default,out:=fun r=>(Go.V.Sh.enc Go.V.D (.ah Go.V.U.str) r,Go.V.bh.encs Go.V.D [] ())}
namespace Go.Proofs
open Go.RowKit Go.Shelf Go.V
theorem zy{a:Option Func}{x y:Func}(h:a=some x)(k:x=y):a=some y:=h.trans (wH some k)
def Tryz.laysFields_ren:Go.Shelf.Ren:=⟨fun|157=>195|229=>233|199=>234|261=>274|311=>328|312=>329|n=>n,fun|31=>65|119=>276|40=>278|152=>314|154=>316|51=>271|141=>318|196=>363|193=>360|198=>366|49=>364|194=>361|201=>369|226=>382|46=>274|227=>383|n=>n,fun|0=>2|6=>3|n=>n⟩
theorem Tryz.laysFields:Go.Proofs.Lays.n157 Tryz.prog Tryz.laysFields_ren:={
 mixed:=by kernel_rfl
 f157:=zy Tryz.func195 (by kernel_rfl)
 f199:=zy Tryz.func234 (by kernel_rfl)
 f229:=zy Tryz.func233 (by kernel_rfl)
 f261:=zy Tryz.func274 (by kernel_rfl)
 f311:=zy Tryz.func328 (by kernel_rfl)
 f312:=zy Tryz.func329 (by kernel_rfl)
 t0:=Tryz.underlying0
 a0:=Tryz.isAgg0
 z0:=Tryz.sizeOf0
 v0:=Tryz.zeroValue0
 t3:=Tryz.underlying3
 a3:=Tryz.isAgg3
 z3:=Tryz.sizeOf3
 v3:=Tryz.zeroValue3
 t4:=Tryz.underlying4
 a4:=Tryz.isAgg4
 z4:=Tryz.sizeOf4
 v4:=Tryz.zeroValue4
 t5:=Tryz.underlying5
 a5:=Tryz.isAgg5
 z5:=Tryz.sizeOf5
 v5:=Tryz.zeroValue5
 t9:=Tryz.underlying9
 a9:=Tryz.isAgg9
 z9:=Tryz.sizeOf9
 v9:=Tryz.zeroValue9
 t21:=Tryz.underlying21
 a21:=Tryz.isAgg21
 z21:=Tryz.sizeOf21
 v21:=Tryz.zeroValue21
 t31:=Tryz.underlying65
 a31:=Tryz.isAgg65
 z31:=Tryz.sizeOf65
 v31:=Tryz.zeroValue65
 t40:=Tryz.underlying278
 a40:=Tryz.isAgg278
 z40:=Tryz.sizeOf278
 v40:=Tryz.zeroValue278
 t46:=Tryz.underlying274
 a46:=Tryz.isAgg274
 z46:=Tryz.sizeOf274
 v46:=Tryz.zeroValue274
 t49:=Tryz.underlying364
 a49:=Tryz.isAgg364
 z49:=Tryz.sizeOf364
 v49:=Tryz.zeroValue364
 t51:=Tryz.underlying271
 a51:=Tryz.isAgg271
 z51:=Tryz.sizeOf271
 v51:=Tryz.zeroValue271
 t119:=Tryz.underlying276
 a119:=Tryz.isAgg276
 z119:=Tryz.sizeOf276
 t141:=Tryz.underlying318
 a141:=Tryz.isAgg318
 z141:=Tryz.sizeOf318
 v141:=Tryz.zeroValue318
 t152:=Tryz.underlying314
 a152:=Tryz.isAgg314
 z152:=Tryz.sizeOf314
 v152:=Tryz.zeroValue314
 t154:=Tryz.underlying316
 a154:=Tryz.isAgg316
 z154:=Tryz.sizeOf316
 v154:=Tryz.zeroValue316
 t193:=Tryz.underlying360
 a193:=Tryz.isAgg360
 z193:=Tryz.sizeOf360
 v193:=Tryz.zeroValue360
 t194:=Tryz.underlying361
 a194:=Tryz.isAgg361
 z194:=Tryz.sizeOf361
 v194:=Tryz.zeroValue361
 t196:=Tryz.underlying363
 a196:=Tryz.isAgg363
 z196:=Tryz.sizeOf363
 v196:=Tryz.zeroValue363
 t198:=Tryz.underlying366
 a198:=Tryz.isAgg366
 z198:=Tryz.sizeOf366
 v198:=Tryz.zeroValue366
 t201:=Tryz.underlying369
 a201:=Tryz.isAgg369
 z201:=Tryz.sizeOf369
 v201:=Tryz.zeroValue369
 t226:=Tryz.underlying382
 a226:=Tryz.isAgg382
 z226:=Tryz.sizeOf382
 v226:=Tryz.zeroValue382
 t227:=Tryz.underlying383
 a227:=Tryz.isAgg383
 z227:=Tryz.sizeOf383
 v227:=Tryz.zeroValue383
 g0:=by kernel_rfl
 g6:=by kernel_rfl}
namespace fD
theorem azL{S:Nat->Prop}{w:World}(hB:Go.V.D.base.inv S w):Lib.TabIs Tryz.prog w "strings.asciiSpace" .u8 Lib.asciiSpaceTab:=by
 obtain⟨⟨-,⟨T,fr,hT⟩,-⟩,-⟩:=hB;have hg:Tryz.prog.globalNamed "strings.asciiSpace" =some 2:=by kernel_rfl
 unfold Lib.TabIs World.var?;rw[hg];simp[hT]
theorem azM{s:List UInt8}{r:List (List UInt8)}(h:M.strings_Fields s=some r):s.length<4294967281/\(∀b∈s,b.toNat<128)/\Lib.fields s=r:=by
 unfold M.strings_Fields at h;by_cases h1:s.length<4294967281
 ·by_cases h2:(s.all fun b=>decide (b.toNat<128))=true
  ·simp only[h1,h2,bg,cK,aA,aD]at h;exact⟨h1,fun b hb=>zt (dz.1 h2 b hb),h⟩
  ·rw[wS]at h2;simp only[h2,Bool.and_false,bN]at h;cases h
 ·simp only[h1,j0,mE,bN]at h;cases h
theorem azN(s:List UInt8)(hl:s.length<4294967281)(ha:∀b∈s,b.toNat<128)(w:World)(htab:Lib.TabIs Tryz.prog w "strings.asciiSpace" .u8 Lib.asciiSpaceTab):
 Calls Tryz.prog 195 #[.string ⟨s.toArray⟩] w fun e w'=>e=.returned (.slice (some ⟨w.heap.size,0,none⟩) (Lib.fields s).length (Lib.fields s).length)/\w'=w.alloc (.cells ((Lib.fields s).map encStr).toArray 9):=by
 have h:=Any.strings_Fields Tryz.laysFields (by kernel_rfl) (by kernel_rfl) ⟨s.toArray⟩ w (by show s.toArray.size<_;simpa using hl) (fun j b hj=>ha b (by
  have e2:(ByteArray.mk s.toArray).data.toList=s:=by simp
  rw[e2]at hj;exact gG hj)) htab
 have e2:(ByteArray.mk s.toArray).data.toList=s:=by simp
 rw[e2]at h;exact h
theorem azO:(NB M.strings_Fields).Ok Go.V.D Tryz.prog:=by
 intro x r hr;obtain⟨hl,has,hv⟩:=azM (s:=x.1.1) hr;subst hv;refine KB ⟨Tryz.f195,Tryz.func195,by kernel_rfl,by kernel_rfl⟩ fun S w vals hS hB ha=>?_
 obtain⟨X,r1,rfl,hX,hr1⟩:=bE.fE (v:=.str x.1.1) (l:=[]) ha;rw[hr1.lS,gX hX];refine(azN _ hl has w (azL hB)).mono ?_
 rintro e w' ⟨rfl,rfl⟩
 generalize Lib.fields x.1.1=zs;refine⟨_,rfl,(Below.refl _ w).alloc (bY _) _,fun b=>S b\/b=w.heap.size,fun _ h=>.inl h,fun b h=>h.imp id fun e=>by subst e;exact⟨bY _,by simp⟩,?_⟩;refine Rep.ah (D:=Go.V.D) (c:=U.str) (l:=zs) (fun i=>[encStr (zs[i]?.getD [])]) (Or.inr rfl) (bY _) (fun i y hy=>rfl) (fun i hi j v hv=>?_) (fun i y hy j v u hv hu=>?_)
 ·cases j with
  |zero=>
   simp at hv;subst hv;have hz:zs[i]?=some zs[i]:=ct hi;have:(w.alloc (.cells (zs.map encStr).toArray 9)).cell? ⟨w.heap.size,0+i*K.sz U.str+0,none⟩=some (encStr zs[i]):=by
    have e:0+i*K.sz U.str+0=i:=by show 0+i*1+0=i;omega
    rw[e];have hn:(w.alloc (.cells (zs.map encStr).toArray 9)).heap[w.heap.size]?=some (.cells (zs.map encStr).toArray 9 (0,0)):=wT _ _;simp only[World.cell?,hn];simp[hi]
   rw[this,hz];rfl
  |succ j=>simp at hv
 ·cases j with
  |zero=>
   simp at hu;subst hu;have:v=.str y:=by have:=hv;simp only[D,KC,je,qO,Sh.encs,List.getElem?_cons_zero,aD]at this;exact this.symm
   subst this;rw[hy];exact .str _
  |succ j=>simp at hu
end fD
end Go.Proofs
theorem ar2:(NB M.strings_Fields).Ok Go.V.D Go.Proofs.Tryz.prog:=Go.Proofs.fD.azO
