/-
  The contracts of strings.IndexByte and of slices.Clone at int64.
-/
import Derived.Test.YtadnfbiaknpllaaGreatDoorXXhandA
import Derived.Shelf.Abstract
import Derived.Shelf.Small.Strs
import Derived.Ground.NamesProg
import Derived.OwnWalk
import Derived.Deep.LoopGhost
import Derived.Lib.SliceRun
import Derived.Shelf.RegionOpenPlain
import Derived.WalkKit
import Derived.Test.YtadnfbiaknpllaaGreatDoorProg
set_option linter.unusedVariables false
noncomputable def Lp(m:List UInt8->Int->Option Int):Go.V.aK Go.V.K:={f:=172,sh:=⟨[.str,.int .u8],[]⟩,R:=Int,run:=fun x=>m x.1.1 x.1.2.1,dflt:=default,out:=fun r=>(Go.V.Sh.enc Go.V.D (.int .i64) r,Go.V.aQ.encs Go.V.D [] ())}
namespace Go.Proofs
open Go.RowKit Go.Shelf Go.V
theorem Lq{a:Option Func}{x y:Func}(h:a=some x)(k:x=y):a=some y:=h.trans (gV some k)
def Tryz.laysIndexByte_ren:Go.Shelf.Ren:=⟨fun|137=>172|217=>182|266=>209|n=>n,fun|n=>n,fun|n=>n⟩
theorem Tryz.laysIndexByte:Go.Proofs.Lays.n137 Tryz.prog Tryz.laysIndexByte_ren:={
 mixed:=by kernel_rfl
 f137:=Lq Tryz.func172 (by kernel_rfl)
 f217:=Lq Tryz.func182 (by kernel_rfl)
 f266:=Lq Tryz.func209 (by kernel_rfl)
 t3:=Tryz.underlying3
 a3:=Tryz.isAgg3
 z3:=Tryz.sizeOf3
 v3:=Tryz.zeroValue3
 t5:=Tryz.underlying5
 a5:=Tryz.isAgg5
 z5:=Tryz.sizeOf5
 v5:=Tryz.zeroValue5
 t9:=Tryz.underlying9
 a9:=Tryz.isAgg9
 z9:=Tryz.sizeOf9
 v9:=Tryz.zeroValue9}
namespace iG
theorem af5(s:ByteArray)(c:Int)(w:World):Calls Tryz.prog 172 #[.string s,.int .u8 c] w fun e w'=>e=.returned (.int .i64 (Lib.indexByte s.data.toList c.toNat.toUInt8))/\w'=w:=
 Any.strings_IndexByte Tryz.laysIndexByte s c w
theorem af6:(Lp M.strings_IndexByte).Ok Go.V.D Tryz.prog:=by
 intro x r hr;have hv:Lib.indexByte x.1.1 x.1.2.1.toNat.toUInt8=r:=(ie hr:M.AN x.1.1 x.1.2.1=r);subst hv;refine Lj ⟨Tryz.f172,Tryz.func172,by kernel_rfl,by kernel_rfl⟩ fun S w vals hS ha=>?_
 obtain⟨X,r1,rfl,hX,hr1⟩:=bc.gz (v:=.str x.1.1) (l:=[.int .u8 x.1.2.1]) ha;obtain⟨Y,r2,rfl,hY,hr2⟩:=hr1.gz;rw[hr2.oJ,iS hX,gY hY];refine(af5 _ _ w).mono ?_
 rintro e w' ⟨rfl,rfl⟩
 exact⟨_,rfl,Below.refl _ _,S,fun _ h=>h,fun _ h=>.inl h,.int _ _⟩
end iG
end Go.Proofs
theorem af7:(Lp M.strings_IndexByte).Ok Go.V.D Go.Proofs.Tryz.prog:=Go.Proofs.iG.af6
