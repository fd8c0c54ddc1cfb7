/-
  The contracts of strings.IndexByte and of slices.Clone at int64.
-/
import Derived.Test.YtmgbhalimhbejaaGreatXRhand3
import Derived.Shelf.Abstract
import Derived.Shelf.Small.Strs
import Derived.Ground.NamesProg
import Derived.OwnWalk
import Derived.Deep.LoopGhost
import Derived.Lib.SliceRun
import Derived.Shelf.RegionOpenPlain
import Derived.WalkKit
import Derived.Test.YtmgbhalimhbejaaGreatProg
set_option linter.unusedVariables false
noncomputable def con_strings_IndexByte (m : List UInt8 → Int → Option Int) : Go.V.ConD Go.V.K := { f := 73, sh := ⟨[.str, .int .u8], []⟩, R := Int, run := fun x => m x.1.1 x.1.2.1, dflt := default, out := fun r => (Go.V.Sh.enc Go.V.D (.int .i64) r, Go.V.OSh.encs Go.V.D [] ()) }
namespace Go.Proofs
open Go.RowKit Go.Shelf Go.V
theorem Tryz_laysIndexByteF {a : Option Func} {x y : Func} (h : a = some x) (k : x = y) : a = some y := h.trans (congrArg some k)
def Tryz.laysIndexByte_ren : Go.Shelf.Ren := ⟨fun | 137 => 73 | 217 => 90 | 266 => 110 | n => n, fun | n => n, fun | n => n⟩
theorem Tryz.laysIndexByte : Go.Proofs.Lays.n137 Tryz.prog Tryz.laysIndexByte_ren := {
  mixed := by kernel_rfl
  f137 := Tryz_laysIndexByteF Tryz.func73 (by kernel_rfl)
  f217 := Tryz_laysIndexByteF Tryz.func90 (by kernel_rfl)
  f266 := Tryz_laysIndexByteF Tryz.func110 (by kernel_rfl)
  t3 := Tryz.underlying3
  a3 := Tryz.isAgg3
  z3 := Tryz.sizeOf3
  v3 := Tryz.zeroValue3
  t5 := Tryz.underlying5
  a5 := Tryz.isAgg5
  z5 := Tryz.sizeOf5
  v5 := Tryz.zeroValue5
  t9 := Tryz.underlying9
  a9 := Tryz.isAgg9
  z9 := Tryz.sizeOf9
  v9 := Tryz.zeroValue9 }
namespace Tryzh
theorem indexByte_calls (s : ByteArray) (c : Int) (w : World) : Calls Tryz.prog 73 #[.string s, .int .u8 c] w fun e w' => e = .returned (.int .i64 (Lib.indexByte s.data.toList c.toNat.toUInt8)) ∧ w' = w :=
  Any.strings_IndexByte Tryz.laysIndexByte s c w
theorem ok_indexByte : (con_strings_IndexByte M.strings_IndexByte).Ok Go.V.D Tryz.prog := by
  intro x r hr
  have hv : Lib.indexByte x.1.1 x.1.2.1.toNat.toUInt8 = r := (Option.some.inj hr : M.idxByte x.1.1 x.1.2.1 = r)
  subst hv
  refine rc_below ⟨Tryz.f73, Tryz.func73, by kernel_rfl, by kernel_rfl⟩ fun S w vals hS ha => ?_
  obtain ⟨X, r1, rfl, hX, hr1⟩ := Reps.uncons (v := .str x.1.1) (l := [.int .u8 x.1.2.1]) ha
  obtain ⟨Y, r2, rfl, hY, hr2⟩ := hr1.uncons
  rw [hr2.nil_iff, rep_str hX, rep_int hY]
  refine (indexByte_calls _ _ w).mono ?_
  rintro e w' ⟨rfl, rfl⟩
  exact ⟨_, rfl, Below.refl _ _, S, fun _ h => h, fun _ h => .inl h, .int _ _⟩

end Tryzh
end Go.Proofs
theorem ok_strings_IndexByte : (con_strings_IndexByte M.strings_IndexByte).Ok Go.V.D Go.Proofs.Tryz.prog := Go.Proofs.Tryzh.ok_indexByte
