/-
  PLAIN LEMMAS: numbers that stay in their kind, places in lists, loops that count up.
-/
import Derived.Test.YtjnemekhocfmlaaGreatXPdata
import Derived.IntWalk
set_option linter.unusedVariables false
namespace M
open Go.V (inB slB bigN bigN_le)
def I64 (n : Int) : Prop := -9223372036854775808 ≤ n ∧ n ≤ 9223372036854775807

theorem wrap_i64 {n : Int} (h1 : -9223372036854775808 ≤ n) (h2 : n ≤ 9223372036854775807) : Go.IntKind.wrap .i64 n = n := Go.IntWalk.i64_in n (by omega)

@[simp] theorem inB_nat (k n : Nat) : inB (k : Int) n = decide (k < n) := by
  unfold inB
  by_cases h : k < n <;> simp [h]

theorem getD_lt {α : Type} {l : List α} {k : Nat} (h : k < l.length) (z : α) : l.getD k z = l[k] := by
  rw [List.getD_eq_getElem?_getD, List.getElem?_eq_getElem h]; rfl

@[simp] theorem cond_same_or (a b : Bool) : (bif a then a else b) = (a || b) := by cases a <;> rfl
@[simp] theorem cond_same_and (a b : Bool) : (bif a then b else a) = (a && b) := by cases a <;> rfl
@[simp] theorem cond_ft (a : Bool) : (bif a then false else true) = !a := by cases a <;> rfl
@[simp] theorem cond_tf (a : Bool) : (bif a then true else false) = a := by cases a <;> rfl
theorem loop_up {Y : Type} {F : Nat → Int → Option Y} {n : Nat} {res : Nat → Option Y}
    (step : ∀ f k, k < n → F f ((k + 1 : Nat) : Int) = res (k + 1) → F (f + 1) (k : Int) = res k) (stop : ∀ f, F (f + 1) (n : Int) = res n) :
    ∀ f k, k ≤ n → n - k < f → F f (k : Int) = res k
  | 0, k, h1, h2 => by omega
  | f + 1, k, h1, h2 => by
    rcases Nat.lt_or_ge k n with hk | hk
    · exact step f k hk (loop_up step stop f (k + 1) (by omega) (by omega))
    · have : k = n := by omega
      subst this; exact stop f
theorem loop_big {Y : Type} {F : Nat → Int → Option Y} {n : Nat} {res : Nat → Option Y} (hn : n < 2 ^ 62)
    (step : ∀ f k, k < n → F f ((k + 1 : Nat) : Int) = res (k + 1) → F (f + 1) (k : Int) = res k) (stop : ∀ f, F (f + 1) (n : Int) = res n) : F bigN 0 = res 0 :=
  loop_up step stop bigN 0 (Nat.zero_le _) (by have := bigN_le; omega)
theorem drop_get {α : Type} {l : List α} {k : Nat} (h : k < l.length) : l.drop k = l[k] :: l.drop (k + 1) := by
  rw [List.drop_eq_getElem_cons h]

theorem all_drop {α : Type} (p : α → Bool) {l : List α} {k : Nat} (h : k < l.length) : (l.drop k).all p = (p l[k] && (l.drop (k + 1)).all p) := by rw [drop_get h]; rfl
theorem big_of {n : Nat} (h : n ≤ 1048576) : n < 2 ^ 62 := by omega
theorem wrapk {k n : Nat} (h : k < n) (hn : n < 2 ^ 62) : Go.IntKind.wrap .i64 ((k : Int) + 1) = ((k + 1 : Nat) : Int) := by
  rw [wrap_i64 (by omega) (by omega)]; omega
theorem run_loop {Y : Type} {F : Nat → Int → Option Y} {n : Nat} {y : Option Y} (hn : n < 2 ^ 62) (step : ∀ f k, k < n → F (f + 1) (k : Int) = F f ((k + 1 : Nat) : Int)) (stop : ∀ f, F (f + 1) (n : Int) = y) : F bigN 0 = y :=
  loop_big (res := fun _ => y) hn (fun f k hk h => by rw [step f k hk]; exact h) stop
theorem copy_loop {α : Type} {F : Nat → Int → List α → Option (List α)} (a : List α) (ha : a.length < 2 ^ 62) (step : ∀ f k out, k < a.length → out.length = a.length → ∀ h : k < a.length, F (f + 1) (k : Int) out = F f ((k + 1 : Nat) : Int) (out.set k a[k]))
    (stop : ∀ f out, F (f + 1) (a.length : Int) out = some out) (out : List α) (ho : out.length = a.length) : F bigN 0 out = some a := by
  have key : ∀ f k out, k ≤ a.length → a.length - k < f → out.length = a.length → F f (k : Int) out = some (out.take k ++ a.drop k) := by
    intro f
    induction f with
    | zero => intro k out h1 h2; omega
    | succ f ih =>
      intro k out h1 h2 h3
      rcases Nat.lt_or_ge k a.length with hk | hk
      · rw [step f k out hk h3 hk, ih (k + 1) _ (by omega) (by omega) (by simpa using h3)]
        congr 1
        rw [drop_get hk, List.take_add_one, List.take_set_of_le (Nat.le_refl _)]
        simp [h3, hk]
      · have : k = a.length := by omega
        subst this
        rw [stop, ← h3, List.take_length, h3, List.drop_length, List.append_nil]
  have := key bigN 0 out (Nat.zero_le _) (by have := bigN_le; omega) ho
  simpa using this
def szL {α : Type} (f : α → Nat) : List α → Nat
  | [] => 0
  | x :: r => f x + 1 + szL f r
theorem szL_len {α : Type} (f : α → Nat) : ∀ l : List α, l.length ≤ szL f l
  | [] => Nat.le_refl _
  | x :: r => by have := szL_len f r; simp only [szL, List.length_cons]; omega
theorem szL_mem {α : Type} (f : α → Nat) : ∀ (l : List α) (x : α), x ∈ l → f x ≤ szL f l
  | y :: r, x, h => by
    rcases List.mem_cons.1 h with rfl | h
    · simp only [szL]; omega
    · have := szL_mem f r x h; simp only [szL]; omega
def suL {α : Type} (f : α → Nat) : List α → Nat
  | [] => 0
  | x :: r => f x + suL f r
theorem szL_su {α : Type} (f : α → Nat) : ∀ l : List α, szL f l = l.length + suL f l
  | [] => rfl
  | x :: r => by simp only [szL, suL, List.length_cons, szL_su f r]; omega
theorem count_loop {α : Type} {f : α → Nat} {F : Nat → Int → Int → Option (Int ⊕ Int)} (a : List α) (L : Int) (ha : a.length < 2 ^ 62)
    (step : ∀ g k (l : Int), 0 ≤ l → l ≤ L → ∀ h : k < a.length, F (g + 1) l (k : Int) = if (f a[k] : Int) ≤ l then F g (l - f a[k]) ((k + 1 : Nat) : Int) else some (.inl (-1)))
    (stop : ∀ g l, F (g + 1) l (a.length : Int) = some (.inr l)) (left : Int) (h0 : 0 ≤ left) (h1 : left ≤ L) : F bigN left 0 = some (if (suL f a : Int) ≤ left then .inr (left - suL f a) else .inl (-1)) := by
  have key : ∀ g k (left : Int), k ≤ a.length → a.length - k < g → 0 ≤ left → left ≤ L → F g left (k : Int) = some (if (suL f (a.drop k) : Int) ≤ left then .inr (left - suL f (a.drop k)) else .inl (-1)) := by
    intro g
    induction g with
    | zero => intro k left h1 h2; omega
    | succ g ih =>
      intro k left h1 h2 h3 h4
      rcases Nat.lt_or_ge k a.length with hk | hk
      · have e : suL f (a.drop k) = f a[k] + suL f (a.drop (k + 1)) := by rw [drop_get hk]; rfl
        rw [step g k left h3 h4 hk, e]
        by_cases hc : (f a[k] : Int) ≤ left
        · rw [if_pos hc, ih (k + 1) _ (by omega) (by omega) (by omega) (by omega)]
          congr 1
          by_cases h5 : (suL f (a.drop (k + 1)) : Int) ≤ left - f a[k]
          · rw [if_pos h5, if_pos (by push_cast; omega)]; congr 1; push_cast; omega
          · rw [if_neg h5, if_neg (by push_cast; omega)]
        · rw [if_neg hc, if_neg (by push_cast; omega)]
      · have : k = a.length := by omega
        subst this
        rw [stop, List.drop_length]
        simp [suL, h3]
  have := key bigN 0 left (Nat.zero_le _) (by have := bigN_le; omega) h0 h1
  simpa using this
theorem szS_of {α : Type} {f : α → Nat} {F : Nat → Int → Int → Option (Int ⊕ Int)} (a : List α) (left : Int) (h0 : 0 ≤ left) (h1 : left ≤ 1048576)
    (step : ∀ g k (l : Int), 0 ≤ l → l ≤ left - a.length → ∀ h : k < a.length, F (g + 1) l (k : Int) = if (f a[k] : Int) ≤ l then F g (l - f a[k]) ((k + 1 : Nat) : Int) else some (.inl (-1)))
    (stop : ∀ g l, F (g + 1) l (a.length : Int) = some (.inr l)) : (bif decide (left - (a.length : Int) < 0) then some (-1) else (match F bigN (left - (a.length : Int)) 0 with
      | none => none
      | some y => (match y with
        | .inl b => some b
        | .inr b => some b))) = some (if (szL f a : Int) ≤ left then left - szL f a else -1) := by
  have e := szL_su f a
  by_cases c : (a.length : Int) ≤ left
  · have n : ¬ (left - (a.length : Int) < 0) := by omega
    rw [count_loop a (left - a.length) (by omega) step stop _ (by omega) (Int.le_refl _)]
    by_cases d : (suL f a : Int) ≤ left - a.length
    · rw [if_pos (show (szL f a : Int) ≤ left by omega)]
      simp only [n, decide_false, cond_false, if_pos d]
      congr 1; omega
    · rw [if_neg (show ¬ (szL f a : Int) ≤ left by omega)]
      simp only [n, decide_false, cond_false, if_neg d]
  · have n : left - (a.length : Int) < 0 := by omega
    rw [if_neg (show ¬ (szL f a : Int) ≤ left by omega)]
    simp only [n, decide_true, cond_true]
theorem szS_of0 {α : Type} {f : α → Nat} (hf : ∀ x, f x = 0) (a : List α) (left : Int) (h0 : 0 ≤ left) : (bif decide (left - (a.length : Int) < 0) then some (-1) else some (left - (a.length : Int))) = some (if (szL f a : Int) ≤ left then left - szL f a else -1) := by
  have e : szL f a = a.length := by
    rw [szL_su]
    have : ∀ l : List α, suL f l = 0 := fun l => by
      induction l with
      | nil => rfl
      | cons x r ih => simp only [suL, hf, ih]
    rw [this]; omega
  rw [e]
  by_cases c : (a.length : Int) ≤ left
  · have n : ¬ (left - (a.length : Int) < 0) := by omega
    rw [if_pos c]; simp only [n, decide_false, cond_false]
  · have n : left - (a.length : Int) < 0 := by omega
    rw [if_neg c]; simp only [n, decide_true, cond_true]

theorem eq_all {α : Type} {F : Nat → Int → Option (Bool ⊕ Unit)} (a : List α) (ha : a.length ≤ 1048576) (step : ∀ f k, ∀ h : k < a.length, F (f + 1) (k : Int) = F f ((k + 1 : Nat) : Int)) (stop : ∀ f, F (f + 1) (a.length : Int) = some (.inr ())) :
    (bif ((a.length : Int) != (a.length : Int)) then some false else (match F bigN 0 with
      | none => none
      | some y => (match y with
        | .inl b => some b
        | .inr _ => some true))) = some true := by
  rw [run_loop (by omega) step stop]; simp

end M
