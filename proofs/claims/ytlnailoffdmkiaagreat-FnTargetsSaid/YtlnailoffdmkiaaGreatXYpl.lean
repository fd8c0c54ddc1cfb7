/-
  PLAIN LEMMAS: numbers that stay in their kind, places in lists, loops that count up.
-/
import Derived.Test.YtlnailoffdmkiaaGreatXYdata
import Derived.IntWalk
set_option linter.unusedVariables false
namespace M
open Go.V (inB slB bigN bigN_le)
def I64 (n : Int) : Prop := -9223372036854775808 ≤ n ∧ n ≤ 9223372036854775807

theorem wrap_i64 {n : Int} (h1 : -9223372036854775808 ≤ n) (h2 : n ≤ 9223372036854775807) : Go.IntKind.wrap .i64 n = n := Go.IntWalk.i64_in n (by omega)

@[simp] theorem inB_nat (k n : Nat) : inB (k : Int) n = decide (k < n) := by
  unfold inB
  by_cases h : k < n <;> simp [h]

theorem getD_lt {α : Type} {l : List α} {k : Nat} (h : k < l.length) (z : α) : l.getD k z = l[k] := by
  rw [List.getD_eq_getElem?_getD, List.getElem?_eq_getElem h]; rfl

@[simp] theorem cond_same_or (a b : Bool) : (bif a then a else b) = (a || b) := by cases a <;> rfl
@[simp] theorem cond_same_and (a b : Bool) : (bif a then b else a) = (a && b) := by cases a <;> rfl
@[simp] theorem cond_ft (a : Bool) : (bif a then false else true) = !a := by cases a <;> rfl
@[simp] theorem cond_tf (a : Bool) : (bif a then true else false) = a := by cases a <;> rfl
theorem loop_up {Y : Type} {F : Nat → Int → Option Y} {n : Nat} {res : Nat → Option Y}
    (step : ∀ f k, k < n → F f ((k + 1 : Nat) : Int) = res (k + 1) → F (f + 1) (k : Int) = res k) (stop : ∀ f, F (f + 1) (n : Int) = res n) :
    ∀ f k, k ≤ n → n - k < f → F f (k : Int) = res k
  | 0, k, h1, h2 => by omega
  | f + 1, k, h1, h2 => by
    rcases Nat.lt_or_ge k n with hk | hk
    · exact step f k hk (loop_up step stop f (k + 1) (by omega) (by omega))
    · have : k = n := by omega
      subst this; exact stop f
theorem loop_big {Y : Type} {F : Nat → Int → Option Y} {n : Nat} {res : Nat → Option Y} (hn : n < 2 ^ 62)
    (step : ∀ f k, k < n → F f ((k + 1 : Nat) : Int) = res (k + 1) → F (f + 1) (k : Int) = res k) (stop : ∀ f, F (f + 1) (n : Int) = res n) : F bigN 0 = res 0 :=
  loop_up step stop bigN 0 (Nat.zero_le _) (by have := bigN_le; omega)
theorem drop_get {α : Type} {l : List α} {k : Nat} (h : k < l.length) : l.drop k = l[k] :: l.drop (k + 1) := by
  rw [List.drop_eq_getElem_cons h]

theorem all_drop {α : Type} (p : α → Bool) {l : List α} {k : Nat} (h : k < l.length) : (l.drop k).all p = (p l[k] && (l.drop (k + 1)).all p) := by rw [drop_get h]; rfl
theorem wrapk {k n : Nat} (h : k < n) (hn : n < 2 ^ 62) : Go.IntKind.wrap .i64 ((k : Int) + 1) = ((k + 1 : Nat) : Int) := by
  rw [wrap_i64 (by omega) (by omega)]; omega
def szL {α : Type} (f : α → Nat) : List α → Nat
  | [] => 0
  | x :: r => f x + 1 + szL f r
theorem szL_len {α : Type} (f : α → Nat) : ∀ l : List α, l.length ≤ szL f l
  | [] => Nat.le_refl _
  | x :: r => by have := szL_len f r; simp only [szL, List.length_cons]; omega
theorem szL_mem {α : Type} (f : α → Nat) : ∀ (l : List α) (x : α), x ∈ l → f x ≤ szL f l
  | y :: r, x, h => by
    rcases List.mem_cons.1 h with rfl | h
    · simp only [szL]; omega
    · have := szL_mem f r x h; simp only [szL]; omega
def suL {α : Type} (f : α → Nat) : List α → Nat
  | [] => 0
  | x :: r => f x + suL f r
end M
