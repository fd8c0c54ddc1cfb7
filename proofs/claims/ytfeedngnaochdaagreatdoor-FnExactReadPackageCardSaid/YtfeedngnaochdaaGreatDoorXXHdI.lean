/-
  The contracts of strings.IndexByte and of slices.Clone at int64.
-/
import Derived.Test.YtfeedngnaochdaaGreatDoorXXhandA
import Derived.Shelf.Abstract
import Derived.Shelf.Small.Strs
import Derived.Ground.NamesProg
import Derived.OwnWalk
import Derived.Deep.LoopGhost
import Derived.Lib.SliceRun
import Derived.Shelf.RegionOpenPlain
import Derived.WalkKit
import Derived.Test.YtfeedngnaochdaaGreatDoorProg
set_option linter.unusedVariables false
noncomputable def Ge(m:List UInt8->Int->Option Int):Go.V.aP Go.V.K:={f:=88,sh:=⟨[.str,.int .u8],[]⟩,R:=Int,run:=fun x=>m x.1.1 x.1.2.1,dflt:=default,out:=fun r=>(Go.V.Sh.enc Go.V.D (.int .i64) r,Go.V.aR.encs Go.V.D [] ())}
namespace Go.Proofs
open Go.RowKit Go.Shelf Go.V
theorem Gf{a:Option Func}{x y:Func}(h:a=some x)(k:x=y):a=some y:=h.trans (fN some k)
def Tryz.laysIndexByte_ren:Go.Shelf.Ren:=⟨fun|137=>88|217=>108|266=>136|n=>n,fun|n=>n,fun|n=>n⟩
theorem Tryz.laysIndexByte:Go.Proofs.Lays.n137 Tryz.prog Tryz.laysIndexByte_ren:={
 mixed:=by kernel_rfl
 f137:=Gf Tryz.func88 (by kernel_rfl)
 f217:=Gf Tryz.func108 (by kernel_rfl)
 f266:=Gf Tryz.func136 (by kernel_rfl)
 t3:=Tryz.underlying3
 a3:=Tryz.isAgg3
 z3:=Tryz.sizeOf3
 v3:=Tryz.zeroValue3
 t5:=Tryz.underlying5
 a5:=Tryz.isAgg5
 z5:=Tryz.sizeOf5
 v5:=Tryz.zeroValue5
 t9:=Tryz.underlying9
 a9:=Tryz.isAgg9
 z9:=Tryz.sizeOf9
 v9:=Tryz.zeroValue9}
namespace lu
theorem YI(s:ByteArray)(c:Int)(w:World):Calls Tryz.prog 88 #[.string s,.int .u8 c] w fun e w'=>e=.returned (.int .i64 (Lib.indexByte s.data.toList c.toNat.toUInt8))/\w'=w:=
 Any.strings_IndexByte Tryz.laysIndexByte s c w
theorem YJ:(Ge M.strings_IndexByte).Ok Go.V.D Tryz.prog:=by
 intro x r hr;have hv:Lib.indexByte x.1.1 x.1.2.1.toNat.toUInt8=r:=(gU hr:M.xC x.1.1 x.1.2.1=r);subst hv;refine LN ⟨Tryz.f88,Tryz.func88,by kernel_rfl,by kernel_rfl⟩ fun S w vals hS ha=>?_
 obtain⟨X,r1,rfl,hX,hr1⟩:=aW.hJ (v:=.str x.1.1) (l:=[.int .u8 x.1.2.1]) ha;obtain⟨Y,r2,rfl,hY,hr2⟩:=hr1.hJ;rw[hr2.ou,iq hX,fi hY];refine(YI _ _ w).mono ?_
 rintro e w' ⟨rfl,rfl⟩
 exact⟨_,rfl,Below.refl _ _,S,fun _ h=>h,fun _ h=>.inl h,.int _ _⟩
end lu
end Go.Proofs
theorem YK:(Ge M.strings_IndexByte).Ok Go.V.D Go.Proofs.Tryz.prog:=Go.Proofs.lu.YJ
