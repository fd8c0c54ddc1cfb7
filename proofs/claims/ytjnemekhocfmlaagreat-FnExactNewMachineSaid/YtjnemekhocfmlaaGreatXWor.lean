/-
  A CONTRACT of one of two readings.
-/
import Derived.Test.YtjnemekhocfmlaaGreatXWfun
namespace Go.V
theorem or_cases {α : Type} {a b : Option α} {r : α} (h : Option.orElse a (fun _ => b) = some r) : a = some r ∨ b = some r := by
  cases a with
  | none => exact .inr h
  | some x => exact .inl h
end Go.V
