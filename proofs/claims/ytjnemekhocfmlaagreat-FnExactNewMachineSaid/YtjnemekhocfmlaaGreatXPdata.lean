/-
  THE DATA: the structs of the program and of the reference as plain types; how they lie in cells.
-/
import Derived.Test.YtjnemekhocfmlaaGreatXWcod
set_option linter.unusedVariables false
namespace M

structure SCodeBlock where
  At : Int
  Else : Int
  End : Int
  Height : Int
  Result : Bool
  deriving Inhabited
def SCodeBlock.zero : SCodeBlock := SCodeBlock.mk 0 0 0 0 false
structure SCodePlace where
  Known : Bool
  Height : Int
  Blocks : List Int
  deriving Inhabited
def SCodePlace.zero : SCodePlace := SCodePlace.mk false 0 []
structure SIns where
  Op : Int
  A : Int
  deriving Inhabited
def SIns.zero : SIns := SIns.mk 0 0
structure SCore where
  Name : List UInt8
  Params : Int
  Locals : Int
  Result : Bool
  Code : List SIns
  deriving Inhabited
def SCore.zero : SCore := SCore.mk [] 0 0 false []
structure SCoreFrame where
  Core : Int
  PC : Int
  Base : Int
  Locals : List Int
  deriving Inhabited
def SCoreFrame.zero : SCoreFrame := SCoreFrame.mk 0 0 0 []
structure SImport where
  Name : List UInt8
  Params : Int
  Result : Bool
  deriving Inhabited
def SImport.zero : SImport := SImport.mk [] 0 false
structure SMachine where
  Status : Int
  Frames : List SCoreFrame
  Stack : List Int
  Import : Int
  Args : List Int
  Result : Int
  Trap : Int
  deriving Inhabited
def SMachine.zero : SMachine := SMachine.mk 0 [] [] 0 [] 0 0
structure SModule where
  Pages : Int
  Imports : List SImport
  Cores : List SCore
  deriving Inhabited
def SModule.zero : SModule := SModule.mk 0 [] []
structure Schecker where
  module : SModule
  core : SCore
  blocks : List SCodeBlock
  next : Int
  open_ : List Int
  bases : List Int
  height : Int
  known : Bool
  deriving Inhabited
def Schecker.zero : Schecker := Schecker.mk SModule.zero SCore.zero [] 0 [] [] 0 false
structure Scode where
  module : SModule
  places : List (List (SCodePlace))
  blocks : List (List (SCodeBlock))
  deriving Inhabited
def Scode.zero : Scode := Scode.mk SModule.zero [] []
structure Sl16R where
  m : SModule
  c : SCore
  blocks : List SCodeBlock
  open_ : List Int
  height : Int
  dead : Bool
  deriving Inhabited
def Sl16R.zero : Sl16R := Sl16R.mk SModule.zero SCore.zero [] [] 0 false
end M

namespace Go.V
open Go M

inductive U where
  | i64 | u8 | i32 | u64 | u32 | u16 | i16 | i8 | str | bool | L_CodeBlock | L_CodePlace | L_Core | L_CoreFrame | L_Import | L_Ins | L_L_CodeBlock | L_L_CodePlace | L_L_i64 | L_i64 | L_str | L_u8 | CodeBlock | CodePlace | Ins | Core | CoreFrame | Import | Machine | Module | checker | code | l16R
  deriving DecidableEq
abbrev El : U → Type
  | .i64 => Int
  | .u8 => UInt8
  | .i32 => Int
  | .u64 => Int
  | .u32 => Int
  | .u16 => Int
  | .i16 => Int
  | .i8 => Int
  | .str => List UInt8
  | .bool => Bool
  | .L_CodeBlock => List (SCodeBlock)
  | .L_CodePlace => List (SCodePlace)
  | .L_Core => List (SCore)
  | .L_CoreFrame => List (SCoreFrame)
  | .L_Import => List (SImport)
  | .L_Ins => List (SIns)
  | .L_L_CodeBlock => List (List (SCodeBlock))
  | .L_L_CodePlace => List (List (SCodePlace))
  | .L_L_i64 => List (List (Int))
  | .L_i64 => List (Int)
  | .L_str => List (List UInt8)
  | .L_u8 => List (UInt8)
  | .CodeBlock => SCodeBlock
  | .CodePlace => SCodePlace
  | .Ins => SIns
  | .Core => SCore
  | .CoreFrame => SCoreFrame
  | .Import => SImport
  | .Machine => SMachine
  | .Module => SModule
  | .checker => Schecker
  | .code => Scode
  | .l16R => Sl16R
def Usz : U → Nat
  | .CodeBlock => 5
  | .CodePlace => 3
  | .Ins => 2
  | .Core => 5
  | .CoreFrame => 4
  | .Import => 3
  | .Machine => 7
  | .Module => 3
  | .checker => 14
  | .code => 5
  | .l16R => 12
  | _ => 1
def Uzero : (c : U) → El c
  | .i64 => (0 : Int)
  | .u8 => (0 : UInt8)
  | .i32 => (0 : Int)
  | .u64 => (0 : Int)
  | .u32 => (0 : Int)
  | .u16 => (0 : Int)
  | .i16 => (0 : Int)
  | .i8 => (0 : Int)
  | .str => ([] : List UInt8)
  | .bool => false
  | .L_CodeBlock => ([] : List (SCodeBlock))
  | .L_CodePlace => ([] : List (SCodePlace))
  | .L_Core => ([] : List (SCore))
  | .L_CoreFrame => ([] : List (SCoreFrame))
  | .L_Import => ([] : List (SImport))
  | .L_Ins => ([] : List (SIns))
  | .L_L_CodeBlock => ([] : List (List (SCodeBlock)))
  | .L_L_CodePlace => ([] : List (List (SCodePlace)))
  | .L_L_i64 => ([] : List (List (Int)))
  | .L_i64 => ([] : List (Int))
  | .L_str => ([] : List (List UInt8))
  | .L_u8 => ([] : List (UInt8))
  | .CodeBlock => SCodeBlock.zero
  | .CodePlace => SCodePlace.zero
  | .Ins => SIns.zero
  | .Core => SCore.zero
  | .CoreFrame => SCoreFrame.zero
  | .Import => SImport.zero
  | .Machine => SMachine.zero
  | .Module => SModule.zero
  | .checker => Schecker.zero
  | .code => Scode.zero
  | .l16R => Sl16R.zero
abbrev K : Uni := { U := U, El := El, deq := inferInstance, sz := Usz, zero := Uzero }
def Ucs : U → List (Sh K)
  | .i64 => [.int .i64]
  | .u8 => [.int .u8]
  | .i32 => [.int .i32]
  | .u64 => [.int .u64]
  | .u32 => [.int .u32]
  | .u16 => [.int .u16]
  | .i16 => [.int .i16]
  | .i8 => [.int .i8]
  | .str => [.str]
  | .bool => [.bool]
  | .L_CodeBlock => [.dsl U.CodeBlock]
  | .L_CodePlace => [.dsl U.CodePlace]
  | .L_Core => [.dsl U.Core]
  | .L_CoreFrame => [.dsl U.CoreFrame]
  | .L_Import => [.dsl U.Import]
  | .L_Ins => [.dsl U.Ins]
  | .L_L_CodeBlock => [.dsl U.L_CodeBlock]
  | .L_L_CodePlace => [.dsl U.L_CodePlace]
  | .L_L_i64 => [.dsl U.L_i64]
  | .L_i64 => [.dsl U.i64]
  | .L_str => [.dsl U.str]
  | .L_u8 => [.dsl U.u8]
  | .CodeBlock => [.int .i64, .int .i64, .int .i64, .int .i64, .bool]
  | .CodePlace => [.bool, .int .i64, .dsl U.i64]
  | .Ins => [.int .i64, .int .i64]
  | .Core => [.str, .int .i64, .int .i64, .bool, .dsl U.Ins]
  | .CoreFrame => [.int .i64, .int .i64, .int .i64, .dsl U.i64]
  | .Import => [.str, .int .i64, .bool]
  | .Machine => [.int .i64, .dsl U.CoreFrame, .dsl U.i64, .int .i64, .dsl U.i64, .int .i64, .int .i64]
  | .Module => [.int .i64, .dsl U.Import, .dsl U.Core]
  | .checker => [.int .i64, .dsl U.Import, .dsl U.Core, .str, .int .i64, .int .i64, .bool, .dsl U.Ins, .dsl U.CodeBlock, .int .i64, .dsl U.i64, .dsl U.i64, .int .i64, .bool]
  | .code => [.int .i64, .dsl U.Import, .dsl U.Core, .dsl U.L_CodePlace, .dsl U.L_CodeBlock]
  | .l16R => [.int .i64, .dsl U.Import, .dsl U.Core, .str, .int .i64, .int .i64, .bool, .dsl U.Ins, .dsl U.CodeBlock, .dsl U.i64, .int .i64, .bool]
def Uun : (c : U) → El c → Sh.Ts (Ucs c)
  | .i64, x => (x, ())
  | .u8, x => ((x.toNat : Int), ())
  | .i32, x => (x, ())
  | .u64, x => (x, ())
  | .u32, x => (x, ())
  | .u16, x => (x, ())
  | .i16, x => (x, ())
  | .i8, x => (x, ())
  | .str, x => (x, ())
  | .bool, x => (x, ())
  | .L_CodeBlock, x => (x, ())
  | .L_CodePlace, x => (x, ())
  | .L_Core, x => (x, ())
  | .L_CoreFrame, x => (x, ())
  | .L_Import, x => (x, ())
  | .L_Ins, x => (x, ())
  | .L_L_CodeBlock, x => (x, ())
  | .L_L_CodePlace, x => (x, ())
  | .L_L_i64, x => (x, ())
  | .L_i64, x => (x, ())
  | .L_str, x => (x, ())
  | .L_u8, x => (x, ())
  | .CodeBlock, x => ((SCodeBlock.At x), (SCodeBlock.Else x), (SCodeBlock.End x), (SCodeBlock.Height x), (SCodeBlock.Result x), ())
  | .CodePlace, x => ((SCodePlace.Known x), (SCodePlace.Height x), (SCodePlace.Blocks x), ())
  | .Ins, x => ((SIns.Op x), (SIns.A x), ())
  | .Core, x => ((SCore.Name x), (SCore.Params x), (SCore.Locals x), (SCore.Result x), (SCore.Code x), ())
  | .CoreFrame, x => ((SCoreFrame.Core x), (SCoreFrame.PC x), (SCoreFrame.Base x), (SCoreFrame.Locals x), ())
  | .Import, x => ((SImport.Name x), (SImport.Params x), (SImport.Result x), ())
  | .Machine, x => ((SMachine.Status x), (SMachine.Frames x), (SMachine.Stack x), (SMachine.Import x), (SMachine.Args x), (SMachine.Result x), (SMachine.Trap x), ())
  | .Module, x => ((SModule.Pages x), (SModule.Imports x), (SModule.Cores x), ())
  | .checker, x => ((SModule.Pages (Schecker.module x)), (SModule.Imports (Schecker.module x)), (SModule.Cores (Schecker.module x)), (SCore.Name (Schecker.core x)), (SCore.Params (Schecker.core x)), (SCore.Locals (Schecker.core x)), (SCore.Result (Schecker.core x)), (SCore.Code (Schecker.core x)), (Schecker.blocks x), (Schecker.next x), (Schecker.open_ x), (Schecker.bases x), (Schecker.height x), (Schecker.known x), ())
  | .code, x => ((SModule.Pages (Scode.module x)), (SModule.Imports (Scode.module x)), (SModule.Cores (Scode.module x)), (Scode.places x), (Scode.blocks x), ())
  | .l16R, x => ((SModule.Pages (Sl16R.m x)), (SModule.Imports (Sl16R.m x)), (SModule.Cores (Sl16R.m x)), (SCore.Name (Sl16R.c x)), (SCore.Params (Sl16R.c x)), (SCore.Locals (Sl16R.c x)), (SCore.Result (Sl16R.c x)), (SCore.Code (Sl16R.c x)), (Sl16R.blocks x), (Sl16R.open_ x), (Sl16R.height x), (Sl16R.dead x), ())
def Umk : (c : U) → Sh.Ts (Ucs c) → El c × Bool
  | .i64, y => (y.1, true)
  | .u8, y => (u8of y.1, u8ok y.1)
  | .i32, y => (y.1, true)
  | .u64, y => (y.1, true)
  | .u32, y => (y.1, true)
  | .u16, y => (y.1, true)
  | .i16, y => (y.1, true)
  | .i8, y => (y.1, true)
  | .str, y => (y.1, true)
  | .bool, y => (y.1, true)
  | .L_CodeBlock, y => (y.1, true)
  | .L_CodePlace, y => (y.1, true)
  | .L_Core, y => (y.1, true)
  | .L_CoreFrame, y => (y.1, true)
  | .L_Import, y => (y.1, true)
  | .L_Ins, y => (y.1, true)
  | .L_L_CodeBlock, y => (y.1, true)
  | .L_L_CodePlace, y => (y.1, true)
  | .L_L_i64, y => (y.1, true)
  | .L_i64, y => (y.1, true)
  | .L_str, y => (y.1, true)
  | .L_u8, y => (y.1, true)
  | .CodeBlock, y => (SCodeBlock.mk y.1 y.2.1 y.2.2.1 y.2.2.2.1 y.2.2.2.2.1, true)
  | .CodePlace, y => (SCodePlace.mk y.1 y.2.1 y.2.2.1, true)
  | .Ins, y => (SIns.mk y.1 y.2.1, true)
  | .Core, y => (SCore.mk y.1 y.2.1 y.2.2.1 y.2.2.2.1 y.2.2.2.2.1, true)
  | .CoreFrame, y => (SCoreFrame.mk y.1 y.2.1 y.2.2.1 y.2.2.2.1, true)
  | .Import, y => (SImport.mk y.1 y.2.1 y.2.2.1, true)
  | .Machine, y => (SMachine.mk y.1 y.2.1 y.2.2.1 y.2.2.2.1 y.2.2.2.2.1 y.2.2.2.2.2.1 y.2.2.2.2.2.2.1, true)
  | .Module, y => (SModule.mk y.1 y.2.1 y.2.2.1, true)
  | .checker, y => (Schecker.mk (SModule.mk y.1 y.2.1 y.2.2.1) (SCore.mk y.2.2.2.1 y.2.2.2.2.1 y.2.2.2.2.2.1 y.2.2.2.2.2.2.1 y.2.2.2.2.2.2.2.1) y.2.2.2.2.2.2.2.2.1 y.2.2.2.2.2.2.2.2.2.1 y.2.2.2.2.2.2.2.2.2.2.1 y.2.2.2.2.2.2.2.2.2.2.2.1 y.2.2.2.2.2.2.2.2.2.2.2.2.1 y.2.2.2.2.2.2.2.2.2.2.2.2.2.1, true)
  | .code, y => (Scode.mk (SModule.mk y.1 y.2.1 y.2.2.1) y.2.2.2.1 y.2.2.2.2.1, true)
  | .l16R, y => (Sl16R.mk (SModule.mk y.1 y.2.1 y.2.2.1) (SCore.mk y.2.2.2.1 y.2.2.2.2.1 y.2.2.2.2.2.1 y.2.2.2.2.2.2.1 y.2.2.2.2.2.2.2.1) y.2.2.2.2.2.2.2.2.1 y.2.2.2.2.2.2.2.2.2.1 y.2.2.2.2.2.2.2.2.2.2.1 y.2.2.2.2.2.2.2.2.2.2.2.1, true)
def Ubyte : (c : U) → Option ((El c → UInt8) × (UInt8 → El c))
  | .u8 => some (id, id)
  | _ => none
noncomputable def D : Cod K := mkCod Ucs Umk Uun Ubyte [.i64, .str, .bool, .i32, .u64, .u32, .u16, .i16, .i8, .L_CodeBlock, .L_CodePlace, .L_Core, .L_CoreFrame, .L_Import, .L_Ins, .L_L_CodeBlock, .L_L_CodePlace, .L_L_i64, .L_i64, .L_str, .L_u8, .CodeBlock, .CodePlace, .Ins, .Core, .CoreFrame, .Import, .Machine, .Module, .checker, .code, .l16R] Base.triv none
theorem D_ok : CodOk D := mkCod_ok (fun c => by cases c <;> rfl) (fun c => by cases c <;> rfl)
  (fun c y x h => by
    cases c <;> first | exact u8of_eq h | (have h := (Prod.mk.inj h).1; subst h; rfl))
  (fun c f g h => by
    cases c <;> simp only [Ubyte, Option.some.injEq, Prod.mk.injEq] at h <;> first | (obtain ⟨rfl, rfl⟩ := h; exact ⟨fun _ => rfl, fun _ => rfl⟩) | cases h)

end Go.V
