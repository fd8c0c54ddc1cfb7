/-
  THE DATA: the structs of the program and of the reference as plain types; how they lie in cells.
-/
import Derived.Test.YtmgbhalimhbejaaGreatXWcod
set_option linter.unusedVariables false
namespace M

inductive SType where
  | mk (Kind : Int) (Name : List UInt8) (Labels : List (List UInt8)) (Kids : List SType)
  deriving Inhabited
def SType.Kind : SType → Int
  | .mk v _ _ _ => v
def SType.Name : SType → List UInt8
  | .mk _ v _ _ => v
def SType.Labels : SType → List (List UInt8)
  | .mk _ _ v _ => v
def SType.Kids : SType → List SType
  | .mk _ _ _ v => v
def SType.re (x : SType) : SType := SType.mk (SType.Kind x) (SType.Name x) (SType.Labels x) (SType.Kids x)
theorem SType.re_eq (x : SType) : SType.re x = x := by cases x; rfl
theorem SType.eta (x : SType) : SType.mk (SType.Kind x) (SType.Name x) (SType.Labels x) (SType.Kids x) = x := by cases x; rfl
def SType.zero : SType := SType.mk 0 [] [] []
structure SParam where
  Name : List UInt8
  Type_ : SType
  deriving Inhabited
def SParam.re (x : SParam) : SParam := SParam.mk (SParam.Name x) (SType.re (SParam.Type_ x))
theorem SParam.re_eq (x : SParam) : SParam.re x = x := by unfold SParam.re; simp only [SType.re_eq]
def SParam.zero : SParam := SParam.mk [] SType.zero
structure SFuncType where
  Params : List SParam
  Result : SType
  Async : Bool
  deriving Inhabited
def SFuncType.re (x : SFuncType) : SFuncType := SFuncType.mk (SFuncType.Params x) (SType.re (SFuncType.Result x)) (SFuncType.Async x)
theorem SFuncType.re_eq (x : SFuncType) : SFuncType.re x = x := by unfold SFuncType.re; simp only [SType.re_eq]
def SFuncType.zero : SFuncType := SFuncType.mk [] SType.zero false
structure Sl00Src where
  code : List UInt8
  at_ : Int
  seed : Int
  deriving Inhabited
def Sl00Src.zero : Sl00Src := Sl00Src.mk [] 0 0
structure Sl03Src where
  s : List UInt8
  at_ : Int
  bad : Bool
  deriving Inhabited
def Sl03Src.zero : Sl03Src := Sl03Src.mk [] 0 false
structure StypeReader where
  rest : List UInt8
  bad : Bool
  deriving Inhabited
def StypeReader.zero : StypeReader := StypeReader.mk [] false
end M

namespace Go.V
open Go M

inductive U where
  | i64 | u8 | i32 | u64 | u32 | u16 | i16 | i8 | str | bool | L_Param | L_Type | L_i64 | L_str | L_u8 | Type | Param | FuncType | l00Src | l03Src | typeReader
  deriving DecidableEq
abbrev El : U → Type
  | .i64 => Int
  | .u8 => UInt8
  | .i32 => Int
  | .u64 => Int
  | .u32 => Int
  | .u16 => Int
  | .i16 => Int
  | .i8 => Int
  | .str => List UInt8
  | .bool => Bool
  | .L_Param => List (SParam)
  | .L_Type => List (SType)
  | .L_i64 => List (Int)
  | .L_str => List (List UInt8)
  | .L_u8 => List (UInt8)
  | .Type => SType
  | .Param => SParam
  | .FuncType => SFuncType
  | .l00Src => Sl00Src
  | .l03Src => Sl03Src
  | .typeReader => StypeReader
def Usz : U → Nat
  | .Type => 4
  | .Param => 5
  | .FuncType => 6
  | .l00Src => 3
  | .l03Src => 3
  | .typeReader => 2
  | _ => 1
def Uzero : (c : U) → El c
  | .i64 => (0 : Int)
  | .u8 => (0 : UInt8)
  | .i32 => (0 : Int)
  | .u64 => (0 : Int)
  | .u32 => (0 : Int)
  | .u16 => (0 : Int)
  | .i16 => (0 : Int)
  | .i8 => (0 : Int)
  | .str => ([] : List UInt8)
  | .bool => false
  | .L_Param => ([] : List (SParam))
  | .L_Type => ([] : List (SType))
  | .L_i64 => ([] : List (Int))
  | .L_str => ([] : List (List UInt8))
  | .L_u8 => ([] : List (UInt8))
  | .Type => SType.zero
  | .Param => SParam.zero
  | .FuncType => SFuncType.zero
  | .l00Src => Sl00Src.zero
  | .l03Src => Sl03Src.zero
  | .typeReader => StypeReader.zero
abbrev K : Uni := { U := U, El := El, deq := inferInstance, sz := Usz, zero := Uzero }
def Ucs : U → List (Sh K)
  | .i64 => [.int .i64]
  | .u8 => [.int .u8]
  | .i32 => [.int .i32]
  | .u64 => [.int .u64]
  | .u32 => [.int .u32]
  | .u16 => [.int .u16]
  | .i16 => [.int .i16]
  | .i8 => [.int .i8]
  | .str => [.str]
  | .bool => [.bool]
  | .L_Param => [.dsl U.Param]
  | .L_Type => [.dsl U.Type]
  | .L_i64 => [.dsl U.i64]
  | .L_str => [.dsl U.str]
  | .L_u8 => [.dsl U.u8]
  | .Type => [.int .i64, .str, .dsl U.str, .dsl U.Type]
  | .Param => [.str, .int .i64, .str, .dsl U.str, .dsl U.Type]
  | .FuncType => [.dsl U.Param, .int .i64, .str, .dsl U.str, .dsl U.Type, .bool]
  | .l00Src => [.dsl U.u8, .int .i64, .int .u64]
  | .l03Src => [.str, .int .i64, .bool]
  | .typeReader => [.str, .bool]
def Uun : (c : U) → El c → Sh.Ts (Ucs c)
  | .i64, x => (x, ())
  | .u8, x => ((x.toNat : Int), ())
  | .i32, x => (x, ())
  | .u64, x => (x, ())
  | .u32, x => (x, ())
  | .u16, x => (x, ())
  | .i16, x => (x, ())
  | .i8, x => (x, ())
  | .str, x => (x, ())
  | .bool, x => (x, ())
  | .L_Param, x => (x, ())
  | .L_Type, x => (x, ())
  | .L_i64, x => (x, ())
  | .L_str, x => (x, ())
  | .L_u8, x => (x, ())
  | .Type, x => ((SType.Kind x), (SType.Name x), (SType.Labels x), (SType.Kids x), ())
  | .Param, x => ((SParam.Name x), (SType.Kind (SParam.Type_ x)), (SType.Name (SParam.Type_ x)), (SType.Labels (SParam.Type_ x)), (SType.Kids (SParam.Type_ x)), ())
  | .FuncType, x => ((SFuncType.Params x), (SType.Kind (SFuncType.Result x)), (SType.Name (SFuncType.Result x)), (SType.Labels (SFuncType.Result x)), (SType.Kids (SFuncType.Result x)), (SFuncType.Async x), ())
  | .l00Src, x => ((Sl00Src.code x), (Sl00Src.at_ x), (Sl00Src.seed x), ())
  | .l03Src, x => ((Sl03Src.s x), (Sl03Src.at_ x), (Sl03Src.bad x), ())
  | .typeReader, x => ((StypeReader.rest x), (StypeReader.bad x), ())
def Umk : (c : U) → Sh.Ts (Ucs c) → El c × Bool
  | .i64, y => (y.1, true)
  | .u8, y => (u8of y.1, u8ok y.1)
  | .i32, y => (y.1, true)
  | .u64, y => (y.1, true)
  | .u32, y => (y.1, true)
  | .u16, y => (y.1, true)
  | .i16, y => (y.1, true)
  | .i8, y => (y.1, true)
  | .str, y => (y.1, true)
  | .bool, y => (y.1, true)
  | .L_Param, y => (y.1, true)
  | .L_Type, y => (y.1, true)
  | .L_i64, y => (y.1, true)
  | .L_str, y => (y.1, true)
  | .L_u8, y => (y.1, true)
  | .Type, y => (SType.mk y.1 y.2.1 y.2.2.1 y.2.2.2.1, true)
  | .Param, y => (SParam.mk y.1 (SType.mk y.2.1 y.2.2.1 y.2.2.2.1 y.2.2.2.2.1), true)
  | .FuncType, y => (SFuncType.mk y.1 (SType.mk y.2.1 y.2.2.1 y.2.2.2.1 y.2.2.2.2.1) y.2.2.2.2.2.1, true)
  | .l00Src, y => (Sl00Src.mk y.1 y.2.1 y.2.2.1, true)
  | .l03Src, y => (Sl03Src.mk y.1 y.2.1 y.2.2.1, true)
  | .typeReader, y => (StypeReader.mk y.1 y.2.1, true)
def Ubyte : (c : U) → Option ((El c → UInt8) × (UInt8 → El c))
  | .u8 => some (id, id)
  | _ => none
noncomputable def D : Cod K := mkCod Ucs Umk Uun Ubyte [.i64, .str, .bool, .i32, .u64, .u32, .u16, .i16, .i8, .L_Param, .L_Type, .L_i64, .L_str, .L_u8, .Type, .Param, .FuncType, .l00Src, .l03Src, .typeReader] Base.triv (some 113) (fun | .u8 => some 5 | _ => none)
theorem D_ok : CodOk D := mkCod_ok (fun c => by cases c <;> rfl) (fun c => by cases c <;> rfl)
  (fun c y x h => by
    cases c <;> first | exact u8of_eq h | (have h := (Prod.mk.inj h).1; subst h; rfl))
  (fun c f g h => by
    cases c <;> simp only [Ubyte, Option.some.injEq, Prod.mk.injEq] at h <;> first | (obtain ⟨rfl, rfl⟩ := h; exact ⟨fun _ => rfl, fun _ => rfl⟩) | cases h)

end Go.V
