/-
  The contracts of strings.IndexByte and of slices.Clone at int64.
-/
import Derived.Test.YtghkckfhaljjjaaGreatDoorXXhandA
import Derived.Shelf.Abstract
import Derived.Shelf.Small.Strs
import Derived.Ground.NamesProg
import Derived.OwnWalk
import Derived.Deep.LoopGhost
import Derived.Lib.SliceRun
import Derived.Shelf.RegionOpenPlain
import Derived.WalkKit
import Derived.Test.YtghkckfhaljjjaaGreatDoorProg
set_option linter.unusedVariables false
noncomputable def K2(m:List UInt8->Int->Option Int):Go.V.aG Go.V.K:={f:=198,sh:=⟨[.str,.int .u8],[]⟩,R:=Int,run:=fun x=>m x.1.1 x.1.2.1,dflt:=default,out:=fun r=>(Go.V.Sh.enc Go.V.D (.int .i64) r,Go.V.aW.encs Go.V.D [] ())}
namespace Go.Proofs
open Go.RowKit Go.Shelf Go.V
theorem K3{a:Option Func}{x y:Func}(h:a=some x)(k:x=y):a=some y:=h.trans (rB some k)
def Tryz.laysIndexByte_ren:Go.Shelf.Ren:=⟨fun|137=>198|217=>230|266=>255|n=>n,fun|n=>n,fun|n=>n⟩
theorem Tryz.laysIndexByte:Go.Proofs.Lays.n137 Tryz.prog Tryz.laysIndexByte_ren:={
 mixed:=by kernel_rfl
 f137:=K3 Tryz.func198 (by kernel_rfl)
 f217:=K3 Tryz.func230 (by kernel_rfl)
 f266:=K3 Tryz.func255 (by kernel_rfl)
 t3:=Tryz.underlying3
 a3:=Tryz.isAgg3
 z3:=Tryz.sizeOf3
 v3:=Tryz.zeroValue3
 t5:=Tryz.underlying5
 a5:=Tryz.isAgg5
 z5:=Tryz.sizeOf5
 v5:=Tryz.zeroValue5
 t9:=Tryz.underlying9
 a9:=Tryz.isAgg9
 z9:=Tryz.sizeOf9
 v9:=Tryz.zeroValue9}
namespace iu
theorem agL(s:ByteArray)(c:Int)(w:World):Calls Tryz.prog 198 #[.string s,.int .u8 c] w fun e w'=>e=.returned (.int .i64 (Lib.indexByte s.data.toList c.toNat.toUInt8))/\w'=w:=
 Any.strings_IndexByte Tryz.laysIndexByte s c w
theorem agM:(K2 M.strings_IndexByte).Ok Go.V.D Tryz.prog:=by
 intro x r hr;have hv:Lib.indexByte x.1.1 x.1.2.1.toNat.toUInt8=r:=(fA hr:M.zt x.1.1 x.1.2.1=r);subst hv;refine KX ⟨Tryz.f198,Tryz.func198,by kernel_rfl,by kernel_rfl⟩ fun S w vals hS ha=>?_
 obtain⟨X,r1,rfl,hX,hr1⟩:=bh.gp (v:=.str x.1.1) (l:=[.int .u8 x.1.2.1]) ha;obtain⟨Y,r2,rfl,hY,hr2⟩:=hr1.gp;rw[hr2.m9,iD hX,gQ hY];refine(agL _ _ w).mono ?_
 rintro e w' ⟨rfl,rfl⟩
 exact⟨_,rfl,Below.refl _ _,S,fun _ h=>h,fun _ h=>.inl h,.int _ _⟩
end iu
end Go.Proofs
theorem agN:(K2 M.strings_IndexByte).Ok Go.V.D Go.Proofs.Tryz.prog:=Go.Proofs.iu.agM
