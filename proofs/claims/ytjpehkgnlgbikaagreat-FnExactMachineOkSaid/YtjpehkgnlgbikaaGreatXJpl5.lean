/-
  PLAIN LEMMAS: what holds of all places of a list; names none of which stands ahead of itself.
-/
import Derived.Test.YtjpehkgnlgbikaaGreatXJpl4
set_option linter.unusedVariables false
namespace M
theorem all_range5 {α : Type} (p : α → Bool) (l : List α) (d : α) : (List.range l.length).all (fun i => p (l.getD i d)) = l.all p := by
  rw [Bool.eq_iff_iff]
  simp only [List.all_eq_true, List.mem_range]
  constructor
  · intro h x hx
    obtain ⟨i, hi, rfl⟩ := List.getElem_of_mem hx
    have := h i hi
    rwa [getD_lt hi] at this
  · intro h i hi
    rw [getD_lt hi]
    exact h _ (List.getElem_mem hi)
theorem all_and5 {α : Type} (p q : α → Bool) (l : List α) : l.all (fun x => p x && q x) = (l.all p && l.all q) := by
  induction l with
  | nil => rfl
  | cons x r ih => simp only [List.all_cons, ih]; cases p x <;> cases q x <;> cases r.all p <;> cases r.all q <;> rfl
theorem nodup_take {α : Type} (nm : α → List UInt8) (l : List α) (d : α) : (List.range l.length).all (fun i => !((l.take i).any fun x => nm x == nm (l.getD i d))) = nodupB (l.map nm) := by
  rw [Bool.eq_iff_iff, nodupB_iff, List.Nodup, List.pairwise_iff_getElem]
  simp only [List.all_eq_true, List.mem_range, Bool.not_eq_true', List.any_eq_false, beq_iff_eq, List.length_map, List.getElem_map]
  constructor
  · intro h i j hi hj hij e
    have hm : l[i] ∈ l.take j := by
      rw [List.mem_take_iff_getElem]
      exact ⟨i, by omega, rfl⟩
    have := h j hj l[i] hm
    rw [getD_lt hj] at this
    exact this e
  · intro h i hi x hx e
    rw [List.mem_take_iff_getElem] at hx
    obtain ⟨k, hk, rfl⟩ := hx
    rw [getD_lt hi] at e
    exact h k i (by omega) hi (by omega) e
end M
