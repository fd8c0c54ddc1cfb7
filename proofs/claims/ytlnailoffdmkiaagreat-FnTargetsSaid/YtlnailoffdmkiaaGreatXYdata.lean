/-
  THE DATA: the structs of the program and of the reference as plain types; how they lie in cells.
-/
import Derived.Test.YtlnailoffdmkiaaGreatXWcod
set_option linter.unusedVariables false
namespace M

structure SCodeBlock where
  At : Int
  Else : Int
  End : Int
  Height : Int
  Result : Bool
  deriving Inhabited
def SCodeBlock.zero : SCodeBlock := SCodeBlock.mk 0 0 0 0 false
structure SCodePlace where
  Known : Bool
  Height : Int
  Blocks : List Int
  deriving Inhabited
def SCodePlace.zero : SCodePlace := SCodePlace.mk false 0 []
structure SIns where
  Op : Int
  A : Int
  deriving Inhabited
def SIns.zero : SIns := SIns.mk 0 0
structure SCore where
  Name : List UInt8
  Params : Int
  Locals : Int
  Result : Bool
  Code : List SIns
  deriving Inhabited
def SCore.zero : SCore := SCore.mk [] 0 0 false []
inductive SType where
  | mk (Kind : Int) (Name : List UInt8) (Labels : List (List UInt8)) (Kids : List SType)
  deriving Inhabited
def SType.Kind : SType → Int
  | .mk v _ _ _ => v
def SType.Name : SType → List UInt8
  | .mk _ v _ _ => v
def SType.Labels : SType → List (List UInt8)
  | .mk _ _ v _ => v
def SType.Kids : SType → List SType
  | .mk _ _ _ v => v
def SType.re (x : SType) : SType := SType.mk (SType.Kind x) (SType.Name x) (SType.Labels x) (SType.Kids x)
def SType.zero : SType := SType.mk 0 [] [] []
structure SParam where
  Name : List UInt8
  Type_ : SType
  deriving Inhabited
def SParam.re (x : SParam) : SParam := SParam.mk (SParam.Name x) (SType.re (SParam.Type_ x))
def SParam.zero : SParam := SParam.mk [] SType.zero
structure SFuncType where
  Params : List SParam
  Result : SType
  Async : Bool
  deriving Inhabited
def SFuncType.re (x : SFuncType) : SFuncType := SFuncType.mk (SFuncType.Params x) (SType.re (SFuncType.Result x)) (SFuncType.Async x)
def SFuncType.zero : SFuncType := SFuncType.mk [] SType.zero false
structure SImport where
  Name : List UInt8
  Params : Int
  Result : Bool
  deriving Inhabited
def SImport.zero : SImport := SImport.mk [] 0 false
structure SModule where
  Pages : Int
  Imports : List SImport
  Cores : List SCore
  deriving Inhabited
def SModule.zero : SModule := SModule.mk 0 [] []
structure Schecker where
  module : SModule
  core : SCore
  blocks : List SCodeBlock
  next : Int
  open_ : List Int
  bases : List Int
  height : Int
  known : Bool
  deriving Inhabited
def Schecker.zero : Schecker := Schecker.mk SModule.zero SCore.zero [] 0 [] [] 0 false
structure Sl00Src where
  code : List UInt8
  at_ : Int
  seed : Int
  deriving Inhabited
def Sl00Src.zero : Sl00Src := Sl00Src.mk [] 0 0
structure Sl03Src where
  s : List UInt8
  at_ : Int
  bad : Bool
  deriving Inhabited
def Sl03Src.zero : Sl03Src := Sl03Src.mk [] 0 false
structure Sl16R where
  m : SModule
  c : SCore
  blocks : List SCodeBlock
  open_ : List Int
  height : Int
  dead : Bool
  deriving Inhabited
def Sl16R.zero : Sl16R := Sl16R.mk SModule.zero SCore.zero [] [] 0 false
structure StypeReader where
  rest : List UInt8
  bad : Bool
  deriving Inhabited
def StypeReader.zero : StypeReader := StypeReader.mk [] false
end M

namespace Go.V
open Go M

inductive U where
  | i64 | u8 | i32 | u64 | u32 | u16 | i16 | i8 | str | bool | L_CodeBlock | L_CodePlace | L_Core | L_Import | L_Ins | L_Param | L_Type | L_i64 | L_str | L_u8 | CodeBlock | CodePlace | Ins | Core | Type | Param | FuncType | Import | Module | checker | l00Src | l03Src | l16R | typeReader
  deriving DecidableEq
abbrev El : U → Type
  | .i64 => Int
  | .u8 => UInt8
  | .i32 => Int
  | .u64 => Int
  | .u32 => Int
  | .u16 => Int
  | .i16 => Int
  | .i8 => Int
  | .str => List UInt8
  | .bool => Bool
  | .L_CodeBlock => List (SCodeBlock)
  | .L_CodePlace => List (SCodePlace)
  | .L_Core => List (SCore)
  | .L_Import => List (SImport)
  | .L_Ins => List (SIns)
  | .L_Param => List (SParam)
  | .L_Type => List (SType)
  | .L_i64 => List (Int)
  | .L_str => List (List UInt8)
  | .L_u8 => List (UInt8)
  | .CodeBlock => SCodeBlock
  | .CodePlace => SCodePlace
  | .Ins => SIns
  | .Core => SCore
  | .Type => SType
  | .Param => SParam
  | .FuncType => SFuncType
  | .Import => SImport
  | .Module => SModule
  | .checker => Schecker
  | .l00Src => Sl00Src
  | .l03Src => Sl03Src
  | .l16R => Sl16R
  | .typeReader => StypeReader
def Usz : U → Nat
  | .CodeBlock => 5
  | .CodePlace => 3
  | .Ins => 2
  | .Core => 5
  | .Type => 4
  | .Param => 5
  | .FuncType => 6
  | .Import => 3
  | .Module => 3
  | .checker => 14
  | .l00Src => 3
  | .l03Src => 3
  | .l16R => 12
  | .typeReader => 2
  | _ => 1
def Uzero : (c : U) → El c
  | .i64 => (0 : Int)
  | .u8 => (0 : UInt8)
  | .i32 => (0 : Int)
  | .u64 => (0 : Int)
  | .u32 => (0 : Int)
  | .u16 => (0 : Int)
  | .i16 => (0 : Int)
  | .i8 => (0 : Int)
  | .str => ([] : List UInt8)
  | .bool => false
  | .L_CodeBlock => ([] : List (SCodeBlock))
  | .L_CodePlace => ([] : List (SCodePlace))
  | .L_Core => ([] : List (SCore))
  | .L_Import => ([] : List (SImport))
  | .L_Ins => ([] : List (SIns))
  | .L_Param => ([] : List (SParam))
  | .L_Type => ([] : List (SType))
  | .L_i64 => ([] : List (Int))
  | .L_str => ([] : List (List UInt8))
  | .L_u8 => ([] : List (UInt8))
  | .CodeBlock => SCodeBlock.zero
  | .CodePlace => SCodePlace.zero
  | .Ins => SIns.zero
  | .Core => SCore.zero
  | .Type => SType.zero
  | .Param => SParam.zero
  | .FuncType => SFuncType.zero
  | .Import => SImport.zero
  | .Module => SModule.zero
  | .checker => Schecker.zero
  | .l00Src => Sl00Src.zero
  | .l03Src => Sl03Src.zero
  | .l16R => Sl16R.zero
  | .typeReader => StypeReader.zero
abbrev K : Uni := { U := U, El := El, deq := inferInstance, sz := Usz, zero := Uzero }
def Ucs : U → List (Sh K)
  | .i64 => [.int .i64]
  | .u8 => [.int .u8]
  | .i32 => [.int .i32]
  | .u64 => [.int .u64]
  | .u32 => [.int .u32]
  | .u16 => [.int .u16]
  | .i16 => [.int .i16]
  | .i8 => [.int .i8]
  | .str => [.str]
  | .bool => [.bool]
  | .L_CodeBlock => [.dsl U.CodeBlock]
  | .L_CodePlace => [.dsl U.CodePlace]
  | .L_Core => [.dsl U.Core]
  | .L_Import => [.dsl U.Import]
  | .L_Ins => [.dsl U.Ins]
  | .L_Param => [.dsl U.Param]
  | .L_Type => [.dsl U.Type]
  | .L_i64 => [.dsl U.i64]
  | .L_str => [.dsl U.str]
  | .L_u8 => [.dsl U.u8]
  | .CodeBlock => [.int .i64, .int .i64, .int .i64, .int .i64, .bool]
  | .CodePlace => [.bool, .int .i64, .dsl U.i64]
  | .Ins => [.int .i64, .int .i64]
  | .Core => [.str, .int .i64, .int .i64, .bool, .dsl U.Ins]
  | .Type => [.int .i64, .str, .dsl U.str, .dsl U.Type]
  | .Param => [.str, .int .i64, .str, .dsl U.str, .dsl U.Type]
  | .FuncType => [.dsl U.Param, .int .i64, .str, .dsl U.str, .dsl U.Type, .bool]
  | .Import => [.str, .int .i64, .bool]
  | .Module => [.int .i64, .dsl U.Import, .dsl U.Core]
  | .checker => [.int .i64, .dsl U.Import, .dsl U.Core, .str, .int .i64, .int .i64, .bool, .dsl U.Ins, .dsl U.CodeBlock, .int .i64, .dsl U.i64, .dsl U.i64, .int .i64, .bool]
  | .l00Src => [.dsl U.u8, .int .i64, .int .u64]
  | .l03Src => [.str, .int .i64, .bool]
  | .l16R => [.int .i64, .dsl U.Import, .dsl U.Core, .str, .int .i64, .int .i64, .bool, .dsl U.Ins, .dsl U.CodeBlock, .dsl U.i64, .int .i64, .bool]
  | .typeReader => [.str, .bool]
def Uun : (c : U) → El c → Sh.Ts (Ucs c)
  | .i64, x => (x, ())
  | .u8, x => ((x.toNat : Int), ())
  | .i32, x => (x, ())
  | .u64, x => (x, ())
  | .u32, x => (x, ())
  | .u16, x => (x, ())
  | .i16, x => (x, ())
  | .i8, x => (x, ())
  | .str, x => (x, ())
  | .bool, x => (x, ())
  | .L_CodeBlock, x => (x, ())
  | .L_CodePlace, x => (x, ())
  | .L_Core, x => (x, ())
  | .L_Import, x => (x, ())
  | .L_Ins, x => (x, ())
  | .L_Param, x => (x, ())
  | .L_Type, x => (x, ())
  | .L_i64, x => (x, ())
  | .L_str, x => (x, ())
  | .L_u8, x => (x, ())
  | .CodeBlock, x => ((SCodeBlock.At x), (SCodeBlock.Else x), (SCodeBlock.End x), (SCodeBlock.Height x), (SCodeBlock.Result x), ())
  | .CodePlace, x => ((SCodePlace.Known x), (SCodePlace.Height x), (SCodePlace.Blocks x), ())
  | .Ins, x => ((SIns.Op x), (SIns.A x), ())
  | .Core, x => ((SCore.Name x), (SCore.Params x), (SCore.Locals x), (SCore.Result x), (SCore.Code x), ())
  | .Type, x => ((SType.Kind x), (SType.Name x), (SType.Labels x), (SType.Kids x), ())
  | .Param, x => ((SParam.Name x), (SType.Kind (SParam.Type_ x)), (SType.Name (SParam.Type_ x)), (SType.Labels (SParam.Type_ x)), (SType.Kids (SParam.Type_ x)), ())
  | .FuncType, x => ((SFuncType.Params x), (SType.Kind (SFuncType.Result x)), (SType.Name (SFuncType.Result x)), (SType.Labels (SFuncType.Result x)), (SType.Kids (SFuncType.Result x)), (SFuncType.Async x), ())
  | .Import, x => ((SImport.Name x), (SImport.Params x), (SImport.Result x), ())
  | .Module, x => ((SModule.Pages x), (SModule.Imports x), (SModule.Cores x), ())
  | .checker, x => ((SModule.Pages (Schecker.module x)), (SModule.Imports (Schecker.module x)), (SModule.Cores (Schecker.module x)), (SCore.Name (Schecker.core x)), (SCore.Params (Schecker.core x)), (SCore.Locals (Schecker.core x)), (SCore.Result (Schecker.core x)), (SCore.Code (Schecker.core x)), (Schecker.blocks x), (Schecker.next x), (Schecker.open_ x), (Schecker.bases x), (Schecker.height x), (Schecker.known x), ())
  | .l00Src, x => ((Sl00Src.code x), (Sl00Src.at_ x), (Sl00Src.seed x), ())
  | .l03Src, x => ((Sl03Src.s x), (Sl03Src.at_ x), (Sl03Src.bad x), ())
  | .l16R, x => ((SModule.Pages (Sl16R.m x)), (SModule.Imports (Sl16R.m x)), (SModule.Cores (Sl16R.m x)), (SCore.Name (Sl16R.c x)), (SCore.Params (Sl16R.c x)), (SCore.Locals (Sl16R.c x)), (SCore.Result (Sl16R.c x)), (SCore.Code (Sl16R.c x)), (Sl16R.blocks x), (Sl16R.open_ x), (Sl16R.height x), (Sl16R.dead x), ())
  | .typeReader, x => ((StypeReader.rest x), (StypeReader.bad x), ())
def Umk : (c : U) → Sh.Ts (Ucs c) → El c × Bool
  | .i64, y => (y.1, true)
  | .u8, y => (u8of y.1, u8ok y.1)
  | .i32, y => (y.1, true)
  | .u64, y => (y.1, true)
  | .u32, y => (y.1, true)
  | .u16, y => (y.1, true)
  | .i16, y => (y.1, true)
  | .i8, y => (y.1, true)
  | .str, y => (y.1, true)
  | .bool, y => (y.1, true)
  | .L_CodeBlock, y => (y.1, true)
  | .L_CodePlace, y => (y.1, true)
  | .L_Core, y => (y.1, true)
  | .L_Import, y => (y.1, true)
  | .L_Ins, y => (y.1, true)
  | .L_Param, y => (y.1, true)
  | .L_Type, y => (y.1, true)
  | .L_i64, y => (y.1, true)
  | .L_str, y => (y.1, true)
  | .L_u8, y => (y.1, true)
  | .CodeBlock, y => (SCodeBlock.mk y.1 y.2.1 y.2.2.1 y.2.2.2.1 y.2.2.2.2.1, true)
  | .CodePlace, y => (SCodePlace.mk y.1 y.2.1 y.2.2.1, true)
  | .Ins, y => (SIns.mk y.1 y.2.1, true)
  | .Core, y => (SCore.mk y.1 y.2.1 y.2.2.1 y.2.2.2.1 y.2.2.2.2.1, true)
  | .Type, y => (SType.mk y.1 y.2.1 y.2.2.1 y.2.2.2.1, true)
  | .Param, y => (SParam.mk y.1 (SType.mk y.2.1 y.2.2.1 y.2.2.2.1 y.2.2.2.2.1), true)
  | .FuncType, y => (SFuncType.mk y.1 (SType.mk y.2.1 y.2.2.1 y.2.2.2.1 y.2.2.2.2.1) y.2.2.2.2.2.1, true)
  | .Import, y => (SImport.mk y.1 y.2.1 y.2.2.1, true)
  | .Module, y => (SModule.mk y.1 y.2.1 y.2.2.1, true)
  | .checker, y => (Schecker.mk (SModule.mk y.1 y.2.1 y.2.2.1) (SCore.mk y.2.2.2.1 y.2.2.2.2.1 y.2.2.2.2.2.1 y.2.2.2.2.2.2.1 y.2.2.2.2.2.2.2.1) y.2.2.2.2.2.2.2.2.1 y.2.2.2.2.2.2.2.2.2.1 y.2.2.2.2.2.2.2.2.2.2.1 y.2.2.2.2.2.2.2.2.2.2.2.1 y.2.2.2.2.2.2.2.2.2.2.2.2.1 y.2.2.2.2.2.2.2.2.2.2.2.2.2.1, true)
  | .l00Src, y => (Sl00Src.mk y.1 y.2.1 y.2.2.1, true)
  | .l03Src, y => (Sl03Src.mk y.1 y.2.1 y.2.2.1, true)
  | .l16R, y => (Sl16R.mk (SModule.mk y.1 y.2.1 y.2.2.1) (SCore.mk y.2.2.2.1 y.2.2.2.2.1 y.2.2.2.2.2.1 y.2.2.2.2.2.2.1 y.2.2.2.2.2.2.2.1) y.2.2.2.2.2.2.2.2.1 y.2.2.2.2.2.2.2.2.2.1 y.2.2.2.2.2.2.2.2.2.2.1 y.2.2.2.2.2.2.2.2.2.2.2.1, true)
  | .typeReader, y => (StypeReader.mk y.1 y.2.1, true)
def Ubyte : (c : U) → Option ((El c → UInt8) × (UInt8 → El c))
  | .u8 => some (id, id)
  | _ => none
noncomputable def D : Cod K := mkCod Ucs Umk Uun Ubyte [.i64, .str, .bool, .i32, .u64, .u32, .u16, .i16, .i8, .L_CodeBlock, .L_CodePlace, .L_Core, .L_Import, .L_Ins, .L_Param, .L_Type, .L_i64, .L_str, .L_u8, .CodeBlock, .CodePlace, .Ins, .Core, .Type, .Param, .FuncType, .Import, .Module, .checker, .l00Src, .l03Src, .l16R, .typeReader] Base.triv (some 230) (fun | .u8 => some 5 | _ => none)
theorem D_ok : CodOk D := mkCod_ok (fun c => by cases c <;> rfl) (fun c => by cases c <;> rfl)
  (fun c y x h => by
    cases c <;> first | exact u8of_eq h | (have h := (Prod.mk.inj h).1; subst h; rfl))
  (fun c f g h => by
    cases c <;> simp only [Ubyte, Option.some.injEq, Prod.mk.injEq] at h <;> first | (obtain ⟨rfl, rfl⟩ := h; exact ⟨fun _ => rfl, fun _ => rfl⟩) | cases h)

end Go.V
