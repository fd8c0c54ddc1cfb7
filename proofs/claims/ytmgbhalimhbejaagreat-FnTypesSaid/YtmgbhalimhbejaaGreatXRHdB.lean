/-
  The contracts of strings.Builder's copyCheck and String.
-/
import Derived.Test.YtmgbhalimhbejaaGreatXRhand3
import Derived.Shelf.Abstract
import Derived.Shelf.Strings.Builder1
import Derived.Ground.NamesProg
import Derived.Test.YtmgbhalimhbejaaGreatProg
set_option linter.unusedVariables false
noncomputable def con_strings_Builder_copyCheck (m : (List UInt8) → Option (List UInt8)) : Go.V.ConD Go.V.K := { f := 114, sh := ⟨[.ptr 0 0], [.box [.np 0, .own 1], .arr Go.V.U.u8]⟩, R := List UInt8, run := fun x => m x.2.2.1, dflt := default, out := fun r => (Go.V.Sh.enc Go.V.D (.tup []) (), Go.V.OSh.encs Go.V.D [.box [.np 0, .own 1], .arr Go.V.U.u8] (((), (), ()), r, ())) }
noncomputable def con_strings_Builder_String (m : (List UInt8) → Option (List UInt8)) : Go.V.ConD Go.V.K := { f := 103, sh := ⟨[.ptr 0 0], [.box [.np 0, .own 1], .arr Go.V.U.u8]⟩, R := List UInt8, run := fun x => m x.2.2.1, dflt := default, out := fun r => (Go.V.Sh.enc Go.V.D .str r, Go.V.OSh.encs Go.V.D [.dead, .dead] ((), (), ())) }
namespace Go.Proofs
open Go.RowKit Go.Shelf Go.V
theorem Tryz_laysBStringF {a : Option Func} {x y : Func} (h : a = some x) (k : x = y) : a = some y := h.trans (congrArg some k)
def Tryz.laysBString_ren : Go.Shelf.Ren := ⟨fun | 169 => 103 | n => n, fun | 70 => 111 | 72 => 113 | 37 => 38 | 127 => 124 | n => n, fun | n => n⟩
theorem Tryz.laysBString : Go.Proofs.Lays.n169 Tryz.prog Tryz.laysBString_ren := {
  mixed := by kernel_rfl
  f169 := Tryz_laysBStringF Tryz.func103 (by kernel_rfl)
  t0 := Tryz.underlying0
  a0 := Tryz.isAgg0
  z0 := Tryz.sizeOf0
  v0 := Tryz.zeroValue0
  t3 := Tryz.underlying3
  a3 := Tryz.isAgg3
  z3 := Tryz.sizeOf3
  v3 := Tryz.zeroValue3
  t9 := Tryz.underlying9
  a9 := Tryz.isAgg9
  z9 := Tryz.sizeOf9
  v9 := Tryz.zeroValue9
  t37 := Tryz.underlying38
  a37 := Tryz.isAgg38
  z37 := Tryz.sizeOf38
  v37 := Tryz.zeroValue38
  t70 := Tryz.underlying111
  a70 := Tryz.isAgg111
  z70 := Tryz.sizeOf111
  v70 := Tryz.zeroValue111
  t72 := Tryz.underlying113
  a72 := Tryz.isAgg113
  z72 := Tryz.sizeOf113
  v72 := Tryz.zeroValue113
  t127 := Tryz.underlying124
  a127 := Tryz.isAgg124
  z127 := Tryz.sizeOf124
  v127 := Tryz.zeroValue124 }
namespace Tryzh
section
variable {P : Program} {ρ : Ren}
set_option maxHeartbeats 1000000 in
set_option maxRecDepth 100000 in
set_option maxHeartbeats 2000000 in
set_option maxRecDepth 100000 in
end

theorem extra : Builder.Extra Tryz.prog Tryz.laysBString_ren where
  sizeBuilder := by kernel_rfl
  liesBuilder := by kernel_rfl
  t5 := Tryz.underlying5
  a5 := fun _ => by kernel_rfl
  z5 := fun _ => by kernel_rfl
  v5 := fun _ => by kernel_rfl
  infoByte := by kernel_rfl
  cellsByte := by kernel_rfl
  sizeByte := by kernel_rfl
  neB5 := by decide
set_option maxHeartbeats 1000000 in
set_option maxRecDepth 100000 in
theorem used_calls (b : Nat) (w : World) (h0 : w.cell? ⟨b, 0, none⟩ = some (.pointer (some ⟨b, 0, none⟩))) :
    Calls Tryz.prog 114 #[.pointer (some ⟨b, 0, none⟩)] w fun e w' => e = .returned (.tuple #[]) ∧ w' = w := by
  obtain ⟨j, hj, hjs⟩ := szOf_i (P := Tryz.prog) (t := 113) (n := 2) (by kernel_rfl)
  go_enter Tryz.func114, Tryz.ntmps114
  go_wp2
  rw [Lib.run_neq_ptr_same w _ Tryz.underlying111 hj]
  go_wp2
  go_end0
  exact ⟨rfl, rfl⟩

set_option maxHeartbeats 1000000 in
set_option maxRecDepth 100000 in
theorem fresh_calls (b : Nat) (w : World) (h0 : w.cell? ⟨b, 0, none⟩ = some (.pointer none)) (hsh : w.shape? b = some (113, 2)) (hfz : w.frozen? ⟨b, 0, none⟩ = false) :
    Calls Tryz.prog 114 #[.pointer (some ⟨b, 0, none⟩)] w fun e w' => e = .returned (.tuple #[]) ∧ w' = w.setCell ⟨b, 0, none⟩ (.pointer (some ⟨b, 0, none⟩)) := by
  obtain ⟨j, hj, hjs⟩ := szOf_i (P := Tryz.prog) (t := 113) (n := 2) (by kernel_rfl)
  go_enter Tryz.func114, Tryz.ntmps114
  go_wp2
  rw [Lib.run_to_unsafe w ⟨b, 0, none⟩ Tryz.underlying111 Tryz.underlying132 hj (by rw [hjs]; decide) hsh (Nat.zero_lt_succ 1)]
  simp only [Result.andThen]
  rw [Oper.upon_value]
  go_wp2
  rw [run_callFunc_extern Tryz.func121 (by kernel_rfl) (by kernel_rfl) (by kernel_rfl) (e := Extern.AbiNoEscape.same) (by kernel_rfl)]
  rw [Lib.run_noEscape]
  simp only [Result.andThen]
  rw [Oper.upon_value]
  go_wp2
  rw [Lib.run_from_unsafe w ⟨b, 0, none⟩ Tryz.underlying132 Tryz.underlying111 hj hsh (by kernel_rfl)]
  simp only [Result.andThen]
  rw [Oper.upon_value]
  go_wp2
  go_end0
  exact ⟨rfl, rfl⟩
abbrev HB (l : List UInt8) : List (Ob Go.V.K) := [.box [.np 0, .sl 1], .arr U.u8 l]
abbrev HX : List (Ob Go.V.K) := [.dead, .dead]
end Tryzh
end Go.Proofs
