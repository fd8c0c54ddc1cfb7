/-
  THE DATA: the structs of the program and of the reference as plain types; how they lie in cells.
-/
import Derived.Test.YtfjgoefnkdcolaaGreatXVcod
set_option linter.unusedVariables false
namespace M

structure SAop where
  Kind : Int
  A : Int
  B : Int
  deriving Inhabited
def SAop.zero : SAop := SAop.mk 0 0 0
structure SNote where
  Task : Int
  Kind : Int
  A : Int
  B : Int
  deriving Inhabited
def SNote.zero : SNote := SNote.mk 0 0 0 0
structure SProg where
  Inst : Int
  Ops : List SAop
  deriving Inhabited
def SProg.zero : SProg := SProg.mk 0 []
inductive SType where
  | mk (Kind : Int) (Name : List UInt8) (Labels : List (List UInt8)) (Kids : List SType)
  deriving Inhabited
def SType.Kind : SType → Int
  | .mk v _ _ _ => v
def SType.Name : SType → List UInt8
  | .mk _ v _ _ => v
def SType.Labels : SType → List (List UInt8)
  | .mk _ _ v _ => v
def SType.Kids : SType → List SType
  | .mk _ _ _ v => v
/-- itself, put together anew -/
def SType.re (x : SType) : SType := SType.mk (SType.Kind x) (SType.Name x) (SType.Labels x) (SType.Kids x)
theorem SType.re_eq (x : SType) : SType.re x = x := by cases x; rfl
theorem SType.eta (x : SType) : SType.mk (SType.Kind x) (SType.Name x) (SType.Labels x) (SType.Kids x) = x := by cases x; rfl
def SType.zero : SType := SType.mk 0 [] [] []
inductive SValue where
  | mk (Kind : Int) (Num : Int) (Text : List UInt8) (Kids : List SValue)
  deriving Inhabited
def SValue.Kind : SValue → Int
  | .mk v _ _ _ => v
def SValue.Num : SValue → Int
  | .mk _ v _ _ => v
def SValue.Text : SValue → List UInt8
  | .mk _ _ v _ => v
def SValue.Kids : SValue → List SValue
  | .mk _ _ _ v => v
/-- itself, put together anew -/
def SValue.re (x : SValue) : SValue := SValue.mk (SValue.Kind x) (SValue.Num x) (SValue.Text x) (SValue.Kids x)
theorem SValue.re_eq (x : SValue) : SValue.re x = x := by cases x; rfl
theorem SValue.eta (x : SValue) : SValue.mk (SValue.Kind x) (SValue.Num x) (SValue.Text x) (SValue.Kids x) = x := by cases x; rfl
def SValue.zero : SValue := SValue.mk 0 0 [] []
structure SStream where
  Type_ : SType
  Room : Int
  Future : Bool
  Buffer : List SValue
  Put : Int
  Got : Int
  Shut : Bool
  Gone : Bool
  deriving Inhabited
/-- itself, put together anew -/
def SStream.re (x : SStream) : SStream := SStream.mk (SType.re (SStream.Type_ x)) (SStream.Room x) (SStream.Future x) (SStream.Buffer x) (SStream.Put x) (SStream.Got x) (SStream.Shut x) (SStream.Gone x)
theorem SStream.re_eq (x : SStream) : SStream.re x = x := by unfold SStream.re; simp only [SType.re_eq]
def SStream.zero : SStream := SStream.mk SType.zero 0 false [] 0 0 false false
structure STask where
  Id : Int
  Prog : Int
  PC : Int
  Parent : Int
  Status : Int
  Result : Int
  Returned : Bool
  Asked : Bool
  Told : Bool
  Subs : List Int
  Set : List Int
  deriving Inhabited
def STask.zero : STask := STask.mk 0 0 0 0 0 0 false false false [] []
structure SAsync where
  Progs : List SProg
  Streams : List SStream
  Tasks : List STask
  Back : List Int
  Notes : List SNote
  deriving Inhabited
def SAsync.zero : SAsync := SAsync.mk [] [] [] [] []
structure SBuiltin where
  Kind : Int
  Face : List UInt8
  Resource : List UInt8
  Import : List UInt8
  deriving Inhabited
def SBuiltin.zero : SBuiltin := SBuiltin.mk 0 [] [] []
structure SParam where
  Name : List UInt8
  Type_ : SType
  deriving Inhabited
/-- itself, put together anew -/
def SParam.re (x : SParam) : SParam := SParam.mk (SParam.Name x) (SType.re (SParam.Type_ x))
theorem SParam.re_eq (x : SParam) : SParam.re x = x := by unfold SParam.re; simp only [SType.re_eq]
def SParam.zero : SParam := SParam.mk [] SType.zero
structure SFuncType where
  Params : List SParam
  Result : SType
  Async : Bool
  deriving Inhabited
/-- itself, put together anew -/
def SFuncType.re (x : SFuncType) : SFuncType := SFuncType.mk (SFuncType.Params x) (SType.re (SFuncType.Result x)) (SFuncType.Async x)
theorem SFuncType.re_eq (x : SFuncType) : SFuncType.re x = x := by unfold SFuncType.re; simp only [SType.re_eq]
def SFuncType.zero : SFuncType := SFuncType.mk [] SType.zero false
structure SFunc where
  Name : List UInt8
  Type_ : SFuncType
  deriving Inhabited
/-- itself, put together anew -/
def SFunc.re (x : SFunc) : SFunc := SFunc.mk (SFunc.Name x) (SFuncType.re (SFunc.Type_ x))
theorem SFunc.re_eq (x : SFunc) : SFunc.re x = x := by unfold SFunc.re; simp only [SFuncType.re_eq]
def SFunc.zero : SFunc := SFunc.mk [] SFuncType.zero
structure SFace where
  Package : List UInt8
  Name : List UInt8
  Version : List UInt8
  Resources : List (List UInt8)
  Funcs : List SFunc
  deriving Inhabited
def SFace.zero : SFace := SFace.mk [] [] [] [] []
structure SLift where
  Face : List UInt8
  Func : List UInt8
  Core : List UInt8
  deriving Inhabited
def SLift.zero : SLift := SLift.mk [] [] []
structure SLower where
  Face : List UInt8
  Func : List UInt8
  Import : List UInt8
  deriving Inhabited
def SLower.zero : SLower := SLower.mk [] [] []
structure SIns where
  Op : Int
  A : Int
  deriving Inhabited
def SIns.zero : SIns := SIns.mk 0 0
structure SCore where
  Name : List UInt8
  Params : Int
  Locals : Int
  Result : Bool
  Code : List SIns
  deriving Inhabited
def SCore.zero : SCore := SCore.mk [] 0 0 false []
structure SImport where
  Name : List UInt8
  Params : Int
  Result : Bool
  deriving Inhabited
def SImport.zero : SImport := SImport.mk [] 0 false
structure SModule where
  Pages : Int
  Imports : List SImport
  Cores : List SCore
  deriving Inhabited
def SModule.zero : SModule := SModule.mk 0 [] []
structure SComponent where
  Name : List UInt8
  Version : List UInt8
  Imports : List SFace
  Exports : List SFace
  Encoding : Int
  Reserve : Int
  Module : SModule
  Lifts : List SLift
  Lowers : List SLower
  Builtins : List SBuiltin
  deriving Inhabited
def SComponent.zero : SComponent := SComponent.mk [] [] [] [] 0 0 SModule.zero [] [] []
structure Sl03Src where
  s : List UInt8
  at_ : Int
  bad : Bool
  deriving Inhabited
def Sl03Src.zero : Sl03Src := Sl03Src.mk [] 0 false
structure StypeReader where
  rest : List UInt8
  bad : Bool
  deriving Inhabited
def StypeReader.zero : StypeReader := StypeReader.mk [] false
end M

namespace Go.V
open Go M

inductive U where
  | i64 | u8 | i32 | u64 | u32 | u16 | i16 | i8 | str | bool | L_Aop | L_Builtin | L_Core | L_Face | L_Func | L_Import | L_Ins | L_Lift | L_Lower | L_Note | L_Param | L_Prog | L_Stream | L_Task | L_Type | L_Value | L_i64 | L_str | L_u8 | Aop | Note | Prog | Type | Value | Stream | Task | Async | Builtin | Param | FuncType | Func | Face | Lift | Lower | Ins | Core | Import | Module | Component | l03Src | typeReader
  deriving DecidableEq
abbrev El : U → Type
  | .i64 => Int
  | .u8 => UInt8
  | .i32 => Int
  | .u64 => Int
  | .u32 => Int
  | .u16 => Int
  | .i16 => Int
  | .i8 => Int
  | .str => List UInt8
  | .bool => Bool
  | .L_Aop => List (SAop)
  | .L_Builtin => List (SBuiltin)
  | .L_Core => List (SCore)
  | .L_Face => List (SFace)
  | .L_Func => List (SFunc)
  | .L_Import => List (SImport)
  | .L_Ins => List (SIns)
  | .L_Lift => List (SLift)
  | .L_Lower => List (SLower)
  | .L_Note => List (SNote)
  | .L_Param => List (SParam)
  | .L_Prog => List (SProg)
  | .L_Stream => List (SStream)
  | .L_Task => List (STask)
  | .L_Type => List (SType)
  | .L_Value => List (SValue)
  | .L_i64 => List (Int)
  | .L_str => List (List UInt8)
  | .L_u8 => List (UInt8)
  | .Aop => SAop
  | .Note => SNote
  | .Prog => SProg
  | .Type => SType
  | .Value => SValue
  | .Stream => SStream
  | .Task => STask
  | .Async => SAsync
  | .Builtin => SBuiltin
  | .Param => SParam
  | .FuncType => SFuncType
  | .Func => SFunc
  | .Face => SFace
  | .Lift => SLift
  | .Lower => SLower
  | .Ins => SIns
  | .Core => SCore
  | .Import => SImport
  | .Module => SModule
  | .Component => SComponent
  | .l03Src => Sl03Src
  | .typeReader => StypeReader
def Usz : U → Nat
  | .Aop => 3
  | .Note => 4
  | .Prog => 2
  | .Type => 4
  | .Value => 4
  | .Stream => 11
  | .Task => 11
  | .Async => 5
  | .Builtin => 4
  | .Param => 5
  | .FuncType => 6
  | .Func => 7
  | .Face => 5
  | .Lift => 3
  | .Lower => 3
  | .Ins => 2
  | .Core => 5
  | .Import => 3
  | .Module => 3
  | .Component => 12
  | .l03Src => 3
  | .typeReader => 2
  | _ => 1
def Uzero : (c : U) → El c
  | .i64 => (0 : Int)
  | .u8 => (0 : UInt8)
  | .i32 => (0 : Int)
  | .u64 => (0 : Int)
  | .u32 => (0 : Int)
  | .u16 => (0 : Int)
  | .i16 => (0 : Int)
  | .i8 => (0 : Int)
  | .str => ([] : List UInt8)
  | .bool => false
  | .L_Aop => ([] : List (SAop))
  | .L_Builtin => ([] : List (SBuiltin))
  | .L_Core => ([] : List (SCore))
  | .L_Face => ([] : List (SFace))
  | .L_Func => ([] : List (SFunc))
  | .L_Import => ([] : List (SImport))
  | .L_Ins => ([] : List (SIns))
  | .L_Lift => ([] : List (SLift))
  | .L_Lower => ([] : List (SLower))
  | .L_Note => ([] : List (SNote))
  | .L_Param => ([] : List (SParam))
  | .L_Prog => ([] : List (SProg))
  | .L_Stream => ([] : List (SStream))
  | .L_Task => ([] : List (STask))
  | .L_Type => ([] : List (SType))
  | .L_Value => ([] : List (SValue))
  | .L_i64 => ([] : List (Int))
  | .L_str => ([] : List (List UInt8))
  | .L_u8 => ([] : List (UInt8))
  | .Aop => SAop.zero
  | .Note => SNote.zero
  | .Prog => SProg.zero
  | .Type => SType.zero
  | .Value => SValue.zero
  | .Stream => SStream.zero
  | .Task => STask.zero
  | .Async => SAsync.zero
  | .Builtin => SBuiltin.zero
  | .Param => SParam.zero
  | .FuncType => SFuncType.zero
  | .Func => SFunc.zero
  | .Face => SFace.zero
  | .Lift => SLift.zero
  | .Lower => SLower.zero
  | .Ins => SIns.zero
  | .Core => SCore.zero
  | .Import => SImport.zero
  | .Module => SModule.zero
  | .Component => SComponent.zero
  | .l03Src => Sl03Src.zero
  | .typeReader => StypeReader.zero
abbrev K : Uni := { U := U, El := El, deq := inferInstance, sz := Usz, zero := Uzero }
def Ucs : U → List (Sh K)
  | .i64 => [.int .i64]
  | .u8 => [.int .u8]
  | .i32 => [.int .i32]
  | .u64 => [.int .u64]
  | .u32 => [.int .u32]
  | .u16 => [.int .u16]
  | .i16 => [.int .i16]
  | .i8 => [.int .i8]
  | .str => [.str]
  | .bool => [.bool]
  | .L_Aop => [.dsl U.Aop]
  | .L_Builtin => [.dsl U.Builtin]
  | .L_Core => [.dsl U.Core]
  | .L_Face => [.dsl U.Face]
  | .L_Func => [.dsl U.Func]
  | .L_Import => [.dsl U.Import]
  | .L_Ins => [.dsl U.Ins]
  | .L_Lift => [.dsl U.Lift]
  | .L_Lower => [.dsl U.Lower]
  | .L_Note => [.dsl U.Note]
  | .L_Param => [.dsl U.Param]
  | .L_Prog => [.dsl U.Prog]
  | .L_Stream => [.dsl U.Stream]
  | .L_Task => [.dsl U.Task]
  | .L_Type => [.dsl U.Type]
  | .L_Value => [.dsl U.Value]
  | .L_i64 => [.dsl U.i64]
  | .L_str => [.dsl U.str]
  | .L_u8 => [.dsl U.u8]
  | .Aop => [.int .i64, .int .i64, .int .i64]
  | .Note => [.int .i64, .int .i64, .int .i64, .int .i64]
  | .Prog => [.int .i64, .dsl U.Aop]
  | .Type => [.int .i64, .str, .dsl U.str, .dsl U.Type]
  | .Value => [.int .i64, .int .i64, .str, .dsl U.Value]
  | .Stream => [.int .i64, .str, .dsl U.str, .dsl U.Type, .int .i64, .bool, .dsl U.Value, .int .i64, .int .i64, .bool, .bool]
  | .Task => [.int .i64, .int .i64, .int .i64, .int .i64, .int .i64, .int .i64, .bool, .bool, .bool, .dsl U.i64, .dsl U.i64]
  | .Async => [.dsl U.Prog, .dsl U.Stream, .dsl U.Task, .dsl U.i64, .dsl U.Note]
  | .Builtin => [.int .i64, .str, .str, .str]
  | .Param => [.str, .int .i64, .str, .dsl U.str, .dsl U.Type]
  | .FuncType => [.dsl U.Param, .int .i64, .str, .dsl U.str, .dsl U.Type, .bool]
  | .Func => [.str, .dsl U.Param, .int .i64, .str, .dsl U.str, .dsl U.Type, .bool]
  | .Face => [.str, .str, .str, .dsl U.str, .dsl U.Func]
  | .Lift => [.str, .str, .str]
  | .Lower => [.str, .str, .str]
  | .Ins => [.int .i64, .int .i64]
  | .Core => [.str, .int .i64, .int .i64, .bool, .dsl U.Ins]
  | .Import => [.str, .int .i64, .bool]
  | .Module => [.int .i64, .dsl U.Import, .dsl U.Core]
  | .Component => [.str, .str, .dsl U.Face, .dsl U.Face, .int .i64, .int .i64, .int .i64, .dsl U.Import, .dsl U.Core, .dsl U.Lift, .dsl U.Lower, .dsl U.Builtin]
  | .l03Src => [.str, .int .i64, .bool]
  | .typeReader => [.str, .bool]
def Uun : (c : U) → El c → Sh.Ts (Ucs c)
  | .i64, x => (x, ())
  | .u8, x => ((x.toNat : Int), ())
  | .i32, x => (x, ())
  | .u64, x => (x, ())
  | .u32, x => (x, ())
  | .u16, x => (x, ())
  | .i16, x => (x, ())
  | .i8, x => (x, ())
  | .str, x => (x, ())
  | .bool, x => (x, ())
  | .L_Aop, x => (x, ())
  | .L_Builtin, x => (x, ())
  | .L_Core, x => (x, ())
  | .L_Face, x => (x, ())
  | .L_Func, x => (x, ())
  | .L_Import, x => (x, ())
  | .L_Ins, x => (x, ())
  | .L_Lift, x => (x, ())
  | .L_Lower, x => (x, ())
  | .L_Note, x => (x, ())
  | .L_Param, x => (x, ())
  | .L_Prog, x => (x, ())
  | .L_Stream, x => (x, ())
  | .L_Task, x => (x, ())
  | .L_Type, x => (x, ())
  | .L_Value, x => (x, ())
  | .L_i64, x => (x, ())
  | .L_str, x => (x, ())
  | .L_u8, x => (x, ())
  | .Aop, x => ((SAop.Kind x), (SAop.A x), (SAop.B x), ())
  | .Note, x => ((SNote.Task x), (SNote.Kind x), (SNote.A x), (SNote.B x), ())
  | .Prog, x => ((SProg.Inst x), (SProg.Ops x), ())
  | .Type, x => ((SType.Kind x), (SType.Name x), (SType.Labels x), (SType.Kids x), ())
  | .Value, x => ((SValue.Kind x), (SValue.Num x), (SValue.Text x), (SValue.Kids x), ())
  | .Stream, x => ((SType.Kind (SStream.Type_ x)), (SType.Name (SStream.Type_ x)), (SType.Labels (SStream.Type_ x)), (SType.Kids (SStream.Type_ x)), (SStream.Room x), (SStream.Future x), (SStream.Buffer x), (SStream.Put x), (SStream.Got x), (SStream.Shut x), (SStream.Gone x), ())
  | .Task, x => ((STask.Id x), (STask.Prog x), (STask.PC x), (STask.Parent x), (STask.Status x), (STask.Result x), (STask.Returned x), (STask.Asked x), (STask.Told x), (STask.Subs x), (STask.Set x), ())
  | .Async, x => ((SAsync.Progs x), (SAsync.Streams x), (SAsync.Tasks x), (SAsync.Back x), (SAsync.Notes x), ())
  | .Builtin, x => ((SBuiltin.Kind x), (SBuiltin.Face x), (SBuiltin.Resource x), (SBuiltin.Import x), ())
  | .Param, x => ((SParam.Name x), (SType.Kind (SParam.Type_ x)), (SType.Name (SParam.Type_ x)), (SType.Labels (SParam.Type_ x)), (SType.Kids (SParam.Type_ x)), ())
  | .FuncType, x => ((SFuncType.Params x), (SType.Kind (SFuncType.Result x)), (SType.Name (SFuncType.Result x)), (SType.Labels (SFuncType.Result x)), (SType.Kids (SFuncType.Result x)), (SFuncType.Async x), ())
  | .Func, x => ((SFunc.Name x), (SFuncType.Params (SFunc.Type_ x)), (SType.Kind (SFuncType.Result (SFunc.Type_ x))), (SType.Name (SFuncType.Result (SFunc.Type_ x))), (SType.Labels (SFuncType.Result (SFunc.Type_ x))), (SType.Kids (SFuncType.Result (SFunc.Type_ x))), (SFuncType.Async (SFunc.Type_ x)), ())
  | .Face, x => ((SFace.Package x), (SFace.Name x), (SFace.Version x), (SFace.Resources x), (SFace.Funcs x), ())
  | .Lift, x => ((SLift.Face x), (SLift.Func x), (SLift.Core x), ())
  | .Lower, x => ((SLower.Face x), (SLower.Func x), (SLower.Import x), ())
  | .Ins, x => ((SIns.Op x), (SIns.A x), ())
  | .Core, x => ((SCore.Name x), (SCore.Params x), (SCore.Locals x), (SCore.Result x), (SCore.Code x), ())
  | .Import, x => ((SImport.Name x), (SImport.Params x), (SImport.Result x), ())
  | .Module, x => ((SModule.Pages x), (SModule.Imports x), (SModule.Cores x), ())
  | .Component, x => ((SComponent.Name x), (SComponent.Version x), (SComponent.Imports x), (SComponent.Exports x), (SComponent.Encoding x), (SComponent.Reserve x), (SModule.Pages (SComponent.Module x)), (SModule.Imports (SComponent.Module x)), (SModule.Cores (SComponent.Module x)), (SComponent.Lifts x), (SComponent.Lowers x), (SComponent.Builtins x), ())
  | .l03Src, x => ((Sl03Src.s x), (Sl03Src.at_ x), (Sl03Src.bad x), ())
  | .typeReader, x => ((StypeReader.rest x), (StypeReader.bad x), ())
def Umk : (c : U) → Sh.Ts (Ucs c) → El c × Bool
  | .i64, y => (y.1, true)
  | .u8, y => (u8of y.1, u8ok y.1)
  | .i32, y => (y.1, true)
  | .u64, y => (y.1, true)
  | .u32, y => (y.1, true)
  | .u16, y => (y.1, true)
  | .i16, y => (y.1, true)
  | .i8, y => (y.1, true)
  | .str, y => (y.1, true)
  | .bool, y => (y.1, true)
  | .L_Aop, y => (y.1, true)
  | .L_Builtin, y => (y.1, true)
  | .L_Core, y => (y.1, true)
  | .L_Face, y => (y.1, true)
  | .L_Func, y => (y.1, true)
  | .L_Import, y => (y.1, true)
  | .L_Ins, y => (y.1, true)
  | .L_Lift, y => (y.1, true)
  | .L_Lower, y => (y.1, true)
  | .L_Note, y => (y.1, true)
  | .L_Param, y => (y.1, true)
  | .L_Prog, y => (y.1, true)
  | .L_Stream, y => (y.1, true)
  | .L_Task, y => (y.1, true)
  | .L_Type, y => (y.1, true)
  | .L_Value, y => (y.1, true)
  | .L_i64, y => (y.1, true)
  | .L_str, y => (y.1, true)
  | .L_u8, y => (y.1, true)
  | .Aop, y => (SAop.mk y.1 y.2.1 y.2.2.1, true)
  | .Note, y => (SNote.mk y.1 y.2.1 y.2.2.1 y.2.2.2.1, true)
  | .Prog, y => (SProg.mk y.1 y.2.1, true)
  | .Type, y => (SType.mk y.1 y.2.1 y.2.2.1 y.2.2.2.1, true)
  | .Value, y => (SValue.mk y.1 y.2.1 y.2.2.1 y.2.2.2.1, true)
  | .Stream, y => (SStream.mk (SType.mk y.1 y.2.1 y.2.2.1 y.2.2.2.1) y.2.2.2.2.1 y.2.2.2.2.2.1 y.2.2.2.2.2.2.1 y.2.2.2.2.2.2.2.1 y.2.2.2.2.2.2.2.2.1 y.2.2.2.2.2.2.2.2.2.1 y.2.2.2.2.2.2.2.2.2.2.1, true)
  | .Task, y => (STask.mk y.1 y.2.1 y.2.2.1 y.2.2.2.1 y.2.2.2.2.1 y.2.2.2.2.2.1 y.2.2.2.2.2.2.1 y.2.2.2.2.2.2.2.1 y.2.2.2.2.2.2.2.2.1 y.2.2.2.2.2.2.2.2.2.1 y.2.2.2.2.2.2.2.2.2.2.1, true)
  | .Async, y => (SAsync.mk y.1 y.2.1 y.2.2.1 y.2.2.2.1 y.2.2.2.2.1, true)
  | .Builtin, y => (SBuiltin.mk y.1 y.2.1 y.2.2.1 y.2.2.2.1, true)
  | .Param, y => (SParam.mk y.1 (SType.mk y.2.1 y.2.2.1 y.2.2.2.1 y.2.2.2.2.1), true)
  | .FuncType, y => (SFuncType.mk y.1 (SType.mk y.2.1 y.2.2.1 y.2.2.2.1 y.2.2.2.2.1) y.2.2.2.2.2.1, true)
  | .Func, y => (SFunc.mk y.1 (SFuncType.mk y.2.1 (SType.mk y.2.2.1 y.2.2.2.1 y.2.2.2.2.1 y.2.2.2.2.2.1) y.2.2.2.2.2.2.1), true)
  | .Face, y => (SFace.mk y.1 y.2.1 y.2.2.1 y.2.2.2.1 y.2.2.2.2.1, true)
  | .Lift, y => (SLift.mk y.1 y.2.1 y.2.2.1, true)
  | .Lower, y => (SLower.mk y.1 y.2.1 y.2.2.1, true)
  | .Ins, y => (SIns.mk y.1 y.2.1, true)
  | .Core, y => (SCore.mk y.1 y.2.1 y.2.2.1 y.2.2.2.1 y.2.2.2.2.1, true)
  | .Import, y => (SImport.mk y.1 y.2.1 y.2.2.1, true)
  | .Module, y => (SModule.mk y.1 y.2.1 y.2.2.1, true)
  | .Component, y => (SComponent.mk y.1 y.2.1 y.2.2.1 y.2.2.2.1 y.2.2.2.2.1 y.2.2.2.2.2.1 (SModule.mk y.2.2.2.2.2.2.1 y.2.2.2.2.2.2.2.1 y.2.2.2.2.2.2.2.2.1) y.2.2.2.2.2.2.2.2.2.1 y.2.2.2.2.2.2.2.2.2.2.1 y.2.2.2.2.2.2.2.2.2.2.2.1, true)
  | .l03Src, y => (Sl03Src.mk y.1 y.2.1 y.2.2.1, true)
  | .typeReader, y => (StypeReader.mk y.1 y.2.1, true)
def Ubyte : (c : U) → Option ((El c → UInt8) × (UInt8 → El c))
  | .u8 => some (id, id)
  | _ => none
noncomputable def D : Cod K := mkCod Ucs Umk Uun Ubyte [.i64, .str, .bool, .i32, .u64, .u32, .u16, .i16, .i8, .L_Aop, .L_Builtin, .L_Core, .L_Face, .L_Func, .L_Import, .L_Ins, .L_Lift, .L_Lower, .L_Note, .L_Param, .L_Prog, .L_Stream, .L_Task, .L_Type, .L_Value, .L_i64, .L_str, .L_u8, .Aop, .Note, .Prog, .Type, .Value, .Stream, .Task, .Async, .Builtin, .Param, .FuncType, .Func, .Face, .Lift, .Lower, .Ins, .Core, .Import, .Module, .Component, .l03Src, .typeReader]
theorem D_ok : CodOk D := mkCod_ok (fun c => by cases c <;> rfl) (fun c => by cases c <;> rfl)
  (fun c y x h => by
    cases c <;> first | exact u8of_eq h | (have h := (Prod.mk.inj h).1; subst h; rfl))
  (fun c f g h => by
    cases c <;> simp only [Ubyte, Option.some.injEq, Prod.mk.injEq] at h <;> first | (obtain ⟨rfl, rfl⟩ := h; exact ⟨fun _ => rfl, fun _ => rfl⟩) | cases h)

end Go.V
