/-
  The contracts of strings.IndexByte and of slices.Clone at int64.
-/
import Derived.Test.YtojfkjgemgjjkaaGreatDoorXXhandA
import Derived.Shelf.Abstract
import Derived.Shelf.Small.Strs
import Derived.Ground.NamesProg
import Derived.OwnWalk
import Derived.Deep.LoopGhost
import Derived.Lib.SliceRun
import Derived.Shelf.RegionOpenPlain
import Derived.WalkKit
import Derived.Test.YtojfkjgemgjjkaaGreatDoorProg
set_option linter.unusedVariables false
noncomputable def KH(m:List UInt8->Int->Option Int):Go.V.aM Go.V.K:={f:=98,sh:=⟨[.str,.int .u8],[]⟩,R:=Int,run:=fun x=>m x.1.1 x.1.2.1,dflt:=default,out:=fun r=>(Go.V.Sh.enc Go.V.D (.int .i64) r,Go.V.aU.encs Go.V.D [] ())}
namespace Go.Proofs
open Go.RowKit Go.Shelf Go.V
theorem KI{a:Option Func}{x y:Func}(h:a=some x)(k:x=y):a=some y:=h.trans (ib some k)
def Tryz.laysIndexByte_ren:Go.Shelf.Ren:=⟨fun|137=>98|217=>134|266=>155|n=>n,fun|n=>n,fun|n=>n⟩
theorem Tryz.laysIndexByte:Go.Proofs.Lays.n137 Tryz.prog Tryz.laysIndexByte_ren:={
 mixed:=by kernel_rfl
 f137:=KI Tryz.func98 (by kernel_rfl)
 f217:=KI Tryz.func134 (by kernel_rfl)
 f266:=KI Tryz.func155 (by kernel_rfl)
 t3:=Tryz.underlying3
 a3:=Tryz.isAgg3
 z3:=Tryz.sizeOf3
 v3:=Tryz.zeroValue3
 t5:=Tryz.underlying5
 a5:=Tryz.isAgg5
 z5:=Tryz.sizeOf5
 v5:=Tryz.zeroValue5
 t9:=Tryz.underlying9
 a9:=Tryz.isAgg9
 z9:=Tryz.sizeOf9
 v9:=Tryz.zeroValue9}
namespace iL
theorem aeP(s:ByteArray)(c:Int)(w:World):Calls Tryz.prog 98 #[.string s,.int .u8 c] w fun e w'=>e=.returned (.int .i64 (Lib.indexByte s.data.toList c.toNat.toUInt8))/\w'=w:=
 Any.strings_IndexByte Tryz.laysIndexByte s c w
theorem aeQ:(KH M.strings_IndexByte).Ok Go.V.D Tryz.prog:=by
 intro x r hr;have hv:Lib.indexByte x.1.1 x.1.2.1.toNat.toUInt8=r:=(iv hr:M.Ax x.1.1 x.1.2.1=r);subst hv;refine KC ⟨Tryz.f98,Tryz.func98,by kernel_rfl,by kernel_rfl⟩ fun S w vals hS ha=>?_
 obtain⟨X,r1,rfl,hX,hr1⟩:=bc.gP (v:=.str x.1.1) (l:=[.int .u8 x.1.2.1]) ha;obtain⟨Y,r2,rfl,hY,hr2⟩:=hr1.gP;rw[hr2.oL,iY hX,ig hY];refine(aeP _ _ w).mono ?_
 rintro e w' ⟨rfl,rfl⟩
 exact⟨_,rfl,Below.refl _ _,S,fun _ h=>h,fun _ h=>.inl h,.int _ _⟩
end iL
end Go.Proofs
theorem aeR:(KH M.strings_IndexByte).Ok Go.V.D Go.Proofs.Tryz.prog:=Go.Proofs.iL.aeQ
