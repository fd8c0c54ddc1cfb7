/-
  THE DATA: the structs of the program and of the reference as plain types; how they lie in cells.
-/
import Derived.Test.YtjdnmlhfiblhdaaGreatXWcod
set_option linter.unusedVariables false
namespace M

structure SAop where
  Kind : Int
  A : Int
  B : Int
  deriving Inhabited
def SAop.zero : SAop := SAop.mk 0 0 0
structure SNote where
  Task : Int
  Kind : Int
  A : Int
  B : Int
  deriving Inhabited
def SNote.zero : SNote := SNote.mk 0 0 0 0
structure SProg where
  Inst : Int
  Ops : List SAop
  deriving Inhabited
def SProg.zero : SProg := SProg.mk 0 []
inductive SType where
  | mk (Kind : Int) (Name : List UInt8) (Labels : List (List UInt8)) (Kids : List SType)
  deriving Inhabited
def SType.Kind : SType → Int
  | .mk v _ _ _ => v
def SType.Name : SType → List UInt8
  | .mk _ v _ _ => v
def SType.Labels : SType → List (List UInt8)
  | .mk _ _ v _ => v
def SType.Kids : SType → List SType
  | .mk _ _ _ v => v
def SType.re (x : SType) : SType := SType.mk (SType.Kind x) (SType.Name x) (SType.Labels x) (SType.Kids x)
theorem SType.re_eq (x : SType) : SType.re x = x := by cases x; rfl
theorem SType.eta (x : SType) : SType.mk (SType.Kind x) (SType.Name x) (SType.Labels x) (SType.Kids x) = x := by cases x; rfl
def SType.zero : SType := SType.mk 0 [] [] []
inductive SValue where
  | mk (Kind : Int) (Num : Int) (Text : List UInt8) (Kids : List SValue)
  deriving Inhabited
def SValue.Kind : SValue → Int
  | .mk v _ _ _ => v
def SValue.Num : SValue → Int
  | .mk _ v _ _ => v
def SValue.Text : SValue → List UInt8
  | .mk _ _ v _ => v
def SValue.Kids : SValue → List SValue
  | .mk _ _ _ v => v
def SValue.re (x : SValue) : SValue := SValue.mk (SValue.Kind x) (SValue.Num x) (SValue.Text x) (SValue.Kids x)
theorem SValue.re_eq (x : SValue) : SValue.re x = x := by cases x; rfl
theorem SValue.eta (x : SValue) : SValue.mk (SValue.Kind x) (SValue.Num x) (SValue.Text x) (SValue.Kids x) = x := by cases x; rfl
def SValue.zero : SValue := SValue.mk 0 0 [] []
structure SStream where
  Type_ : SType
  Room : Int
  Future : Bool
  Buffer : List SValue
  Put : Int
  Got : Int
  Shut : Bool
  Gone : Bool
  deriving Inhabited
def SStream.re (x : SStream) : SStream := SStream.mk (SType.re (SStream.Type_ x)) (SStream.Room x) (SStream.Future x) (SStream.Buffer x) (SStream.Put x) (SStream.Got x) (SStream.Shut x) (SStream.Gone x)
theorem SStream.re_eq (x : SStream) : SStream.re x = x := by unfold SStream.re; simp only [SType.re_eq]
def SStream.zero : SStream := SStream.mk SType.zero 0 false [] 0 0 false false
structure STask where
  Id : Int
  Prog : Int
  PC : Int
  Parent : Int
  Status : Int
  Result : Int
  Returned : Bool
  Asked : Bool
  Told : Bool
  Subs : List Int
  Set : List Int
  deriving Inhabited
def STask.zero : STask := STask.mk 0 0 0 0 0 0 false false false [] []
structure SAsync where
  Progs : List SProg
  Streams : List SStream
  Tasks : List STask
  Back : List Int
  Notes : List SNote
  deriving Inhabited
def SAsync.zero : SAsync := SAsync.mk [] [] [] [] []
end M

namespace Go.V
open Go M

inductive U where
  | i64 | u8 | i32 | u64 | u32 | u16 | i16 | i8 | str | bool | L_Aop | L_Note | L_Prog | L_Stream | L_Task | L_Type | L_Value | L_i64 | L_str | L_u8 | Aop | Note | Prog | Type | Value | Stream | Task | Async
  deriving DecidableEq
abbrev El : U → Type
  | .i64 => Int
  | .u8 => UInt8
  | .i32 => Int
  | .u64 => Int
  | .u32 => Int
  | .u16 => Int
  | .i16 => Int
  | .i8 => Int
  | .str => List UInt8
  | .bool => Bool
  | .L_Aop => List (SAop)
  | .L_Note => List (SNote)
  | .L_Prog => List (SProg)
  | .L_Stream => List (SStream)
  | .L_Task => List (STask)
  | .L_Type => List (SType)
  | .L_Value => List (SValue)
  | .L_i64 => List (Int)
  | .L_str => List (List UInt8)
  | .L_u8 => List (UInt8)
  | .Aop => SAop
  | .Note => SNote
  | .Prog => SProg
  | .Type => SType
  | .Value => SValue
  | .Stream => SStream
  | .Task => STask
  | .Async => SAsync
def Usz : U → Nat
  | .Aop => 3
  | .Note => 4
  | .Prog => 2
  | .Type => 4
  | .Value => 4
  | .Stream => 11
  | .Task => 11
  | .Async => 5
  | _ => 1
def Uzero : (c : U) → El c
  | .i64 => (0 : Int)
  | .u8 => (0 : UInt8)
  | .i32 => (0 : Int)
  | .u64 => (0 : Int)
  | .u32 => (0 : Int)
  | .u16 => (0 : Int)
  | .i16 => (0 : Int)
  | .i8 => (0 : Int)
  | .str => ([] : List UInt8)
  | .bool => false
  | .L_Aop => ([] : List (SAop))
  | .L_Note => ([] : List (SNote))
  | .L_Prog => ([] : List (SProg))
  | .L_Stream => ([] : List (SStream))
  | .L_Task => ([] : List (STask))
  | .L_Type => ([] : List (SType))
  | .L_Value => ([] : List (SValue))
  | .L_i64 => ([] : List (Int))
  | .L_str => ([] : List (List UInt8))
  | .L_u8 => ([] : List (UInt8))
  | .Aop => SAop.zero
  | .Note => SNote.zero
  | .Prog => SProg.zero
  | .Type => SType.zero
  | .Value => SValue.zero
  | .Stream => SStream.zero
  | .Task => STask.zero
  | .Async => SAsync.zero
abbrev K : Uni := { U := U, El := El, deq := inferInstance, sz := Usz, zero := Uzero }
def Ucs : U → List (Sh K)
  | .i64 => [.int .i64]
  | .u8 => [.int .u8]
  | .i32 => [.int .i32]
  | .u64 => [.int .u64]
  | .u32 => [.int .u32]
  | .u16 => [.int .u16]
  | .i16 => [.int .i16]
  | .i8 => [.int .i8]
  | .str => [.str]
  | .bool => [.bool]
  | .L_Aop => [.dsl U.Aop]
  | .L_Note => [.dsl U.Note]
  | .L_Prog => [.dsl U.Prog]
  | .L_Stream => [.dsl U.Stream]
  | .L_Task => [.dsl U.Task]
  | .L_Type => [.dsl U.Type]
  | .L_Value => [.dsl U.Value]
  | .L_i64 => [.dsl U.i64]
  | .L_str => [.dsl U.str]
  | .L_u8 => [.dsl U.u8]
  | .Aop => [.int .i64, .int .i64, .int .i64]
  | .Note => [.int .i64, .int .i64, .int .i64, .int .i64]
  | .Prog => [.int .i64, .dsl U.Aop]
  | .Type => [.int .i64, .str, .dsl U.str, .dsl U.Type]
  | .Value => [.int .i64, .int .i64, .str, .dsl U.Value]
  | .Stream => [.int .i64, .str, .dsl U.str, .dsl U.Type, .int .i64, .bool, .dsl U.Value, .int .i64, .int .i64, .bool, .bool]
  | .Task => [.int .i64, .int .i64, .int .i64, .int .i64, .int .i64, .int .i64, .bool, .bool, .bool, .dsl U.i64, .dsl U.i64]
  | .Async => [.dsl U.Prog, .dsl U.Stream, .dsl U.Task, .dsl U.i64, .dsl U.Note]
def Uun : (c : U) → El c → Sh.Ts (Ucs c)
  | .i64, x => (x, ())
  | .u8, x => ((x.toNat : Int), ())
  | .i32, x => (x, ())
  | .u64, x => (x, ())
  | .u32, x => (x, ())
  | .u16, x => (x, ())
  | .i16, x => (x, ())
  | .i8, x => (x, ())
  | .str, x => (x, ())
  | .bool, x => (x, ())
  | .L_Aop, x => (x, ())
  | .L_Note, x => (x, ())
  | .L_Prog, x => (x, ())
  | .L_Stream, x => (x, ())
  | .L_Task, x => (x, ())
  | .L_Type, x => (x, ())
  | .L_Value, x => (x, ())
  | .L_i64, x => (x, ())
  | .L_str, x => (x, ())
  | .L_u8, x => (x, ())
  | .Aop, x => ((SAop.Kind x), (SAop.A x), (SAop.B x), ())
  | .Note, x => ((SNote.Task x), (SNote.Kind x), (SNote.A x), (SNote.B x), ())
  | .Prog, x => ((SProg.Inst x), (SProg.Ops x), ())
  | .Type, x => ((SType.Kind x), (SType.Name x), (SType.Labels x), (SType.Kids x), ())
  | .Value, x => ((SValue.Kind x), (SValue.Num x), (SValue.Text x), (SValue.Kids x), ())
  | .Stream, x => ((SType.Kind (SStream.Type_ x)), (SType.Name (SStream.Type_ x)), (SType.Labels (SStream.Type_ x)), (SType.Kids (SStream.Type_ x)), (SStream.Room x), (SStream.Future x), (SStream.Buffer x), (SStream.Put x), (SStream.Got x), (SStream.Shut x), (SStream.Gone x), ())
  | .Task, x => ((STask.Id x), (STask.Prog x), (STask.PC x), (STask.Parent x), (STask.Status x), (STask.Result x), (STask.Returned x), (STask.Asked x), (STask.Told x), (STask.Subs x), (STask.Set x), ())
  | .Async, x => ((SAsync.Progs x), (SAsync.Streams x), (SAsync.Tasks x), (SAsync.Back x), (SAsync.Notes x), ())
def Umk : (c : U) → Sh.Ts (Ucs c) → El c × Bool
  | .i64, y => (y.1, true)
  | .u8, y => (u8of y.1, u8ok y.1)
  | .i32, y => (y.1, true)
  | .u64, y => (y.1, true)
  | .u32, y => (y.1, true)
  | .u16, y => (y.1, true)
  | .i16, y => (y.1, true)
  | .i8, y => (y.1, true)
  | .str, y => (y.1, true)
  | .bool, y => (y.1, true)
  | .L_Aop, y => (y.1, true)
  | .L_Note, y => (y.1, true)
  | .L_Prog, y => (y.1, true)
  | .L_Stream, y => (y.1, true)
  | .L_Task, y => (y.1, true)
  | .L_Type, y => (y.1, true)
  | .L_Value, y => (y.1, true)
  | .L_i64, y => (y.1, true)
  | .L_str, y => (y.1, true)
  | .L_u8, y => (y.1, true)
  | .Aop, y => (SAop.mk y.1 y.2.1 y.2.2.1, true)
  | .Note, y => (SNote.mk y.1 y.2.1 y.2.2.1 y.2.2.2.1, true)
  | .Prog, y => (SProg.mk y.1 y.2.1, true)
  | .Type, y => (SType.mk y.1 y.2.1 y.2.2.1 y.2.2.2.1, true)
  | .Value, y => (SValue.mk y.1 y.2.1 y.2.2.1 y.2.2.2.1, true)
  | .Stream, y => (SStream.mk (SType.mk y.1 y.2.1 y.2.2.1 y.2.2.2.1) y.2.2.2.2.1 y.2.2.2.2.2.1 y.2.2.2.2.2.2.1 y.2.2.2.2.2.2.2.1 y.2.2.2.2.2.2.2.2.1 y.2.2.2.2.2.2.2.2.2.1 y.2.2.2.2.2.2.2.2.2.2.1, true)
  | .Task, y => (STask.mk y.1 y.2.1 y.2.2.1 y.2.2.2.1 y.2.2.2.2.1 y.2.2.2.2.2.1 y.2.2.2.2.2.2.1 y.2.2.2.2.2.2.2.1 y.2.2.2.2.2.2.2.2.1 y.2.2.2.2.2.2.2.2.2.1 y.2.2.2.2.2.2.2.2.2.2.1, true)
  | .Async, y => (SAsync.mk y.1 y.2.1 y.2.2.1 y.2.2.2.1 y.2.2.2.2.1, true)
def Ubyte : (c : U) → Option ((El c → UInt8) × (UInt8 → El c))
  | .u8 => some (id, id)
  | _ => none
noncomputable def D : Cod K := mkCod Ucs Umk Uun Ubyte [.i64, .str, .bool, .i32, .u64, .u32, .u16, .i16, .i8, .L_Aop, .L_Note, .L_Prog, .L_Stream, .L_Task, .L_Type, .L_Value, .L_i64, .L_str, .L_u8, .Aop, .Note, .Prog, .Type, .Value, .Stream, .Task, .Async] Base.triv none
theorem D_ok : CodOk D := mkCod_ok (fun c => by cases c <;> rfl) (fun c => by cases c <;> rfl)
  (fun c y x h => by
    cases c <;> first | exact u8of_eq h | (have h := (Prod.mk.inj h).1; subst h; rfl))
  (fun c f g h => by
    cases c <;> simp only [Ubyte, Option.some.injEq, Prod.mk.injEq] at h <;> first | (obtain ⟨rfl, rfl⟩ := h; exact ⟨fun _ => rfl, fun _ => rfl⟩) | cases h)

end Go.V
