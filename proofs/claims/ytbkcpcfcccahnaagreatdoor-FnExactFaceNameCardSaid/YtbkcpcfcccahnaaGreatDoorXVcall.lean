/-
  TEMPORARIES AND CALLS: what the value-level reading of an operand says of its value; a function's contract; a call by its contract.
-/
import Derived.Test.YtbkcpcfcccahnaaGreatDoorXVpure2
import Derived.Test.YtbkcpcfcccahnaaGreatDoorXVobj4
set_option linter.unusedVariables false
namespace Go.V
open Go
variable {K : Uni} {D : Cod K} {ρ ρ' : List Value} {S S' : Nat → Prop} {w w' : World} {H H' : List (Ob K)}

def SlotOk (D : Cod K) (ρ : List Value) (S : Nat → Prop) (w : World) (tmps : Array Value) : AV K → Value → Prop
  | .opt g want v, x => (tmps[g]? = some (.bool want) ∧ Rep D ρ S w v x) ∨ (tmps[g]? ≠ some (.bool want) ∧ x = undef)
  | v, x => Rep D ρ S w v x

structure Slots (D : Cod K) (ρ : List Value) (S : Nat → Prop) (w : World) (tm : List (AV K)) (tmps : Array Value) : Prop where
  len : tm.length = tmps.size
  ok : ∀ (t : Nat) v x, tm[t]? = some v → tmps[t]? = some x → SlotOk D ρ S w tmps v x

theorem SlotOk.mono {tmps : Array Value} (hS : ∀ b, S b → S' b) (hw : ∀ b, S b → w'.heap[b]? = w.heap[b]?) (hρ : ∀ (h : Nat) r, ρ[h]? = some r → ρ'[h]? = some r) {v : AV K} {x : Value} (h : SlotOk D ρ S w tmps v x) : SlotOk D ρ' S' w' tmps v x := by
  cases v <;> simp only [SlotOk] at h ⊢ <;> first | exact h.mono hS hw hρ | (rcases h with ⟨a, b⟩ | h; exact .inl ⟨a, b.mono hS hw hρ⟩; exact .inr h)
theorem Slots.mono {tm : List (AV K)} {tmps : Array Value} (hS : ∀ b, S b → S' b) (hw : ∀ b, S b → w'.heap[b]? = w.heap[b]?) (hρ : ∀ (h : Nat) r, ρ[h]? = some r → ρ'[h]? = some r) (h : Slots D ρ S w tm tmps) : Slots D ρ' S' w' tm tmps :=
  ⟨h.len, fun t v x hv hx => (h.ok t v x hv hx).mono hS hw hρ⟩
theorem SlotOk.of_rep {tmps : Array Value} {v : AV K} {x : Value} (h : Rep D ρ S w v x) : SlotOk D ρ S w tmps v x := by
  cases v <;> first | exact h | (cases h)

theorem Slots.get {tm : List (AV K)} {tmps : Array Value} (h : Slots D ρ S w tm tmps) {t : Nat} {v : AV K} (hv : tm[t]? = some v) : ∃ x, tmps[t]? = some x ∧ SlotOk D ρ S w tmps v x := by
  have ht : t < tmps.size := by rw [← h.len]; exact (List.getElem?_eq_some_iff.1 hv).1
  exact ⟨tmps[t], Array.getElem?_eq_getElem ht, h.ok t v _ hv (Array.getElem?_eq_getElem ht)⟩

theorem covers_sound {tm : List (AV K)} {tmps : Array Value} (h : Slots D ρ S w tm tmps) : ∀ (n : Nat) (g t : Nat × Bool), covers tm n g t = true → tmps[g.1]? = some (.bool g.2) → tmps[t.1]? = some (.bool t.2)
  | 0, g, t, hc, hg => by simp [covers] at hc; rw [← hc.1, ← hc.2]; exact hg
  | n + 1, g, t, hc, hg => by
    simp only [covers, Bool.or_eq_true] at hc
    rcases hc with hc | hc
    · simp at hc; rw [← hc.1, ← hc.2]; exact hg
    · split at hc
      · rename_i g1 w1 v hv
        obtain ⟨x, hx, ho⟩ := h.get hv
        rw [hg] at hx; simp at hx; subst hx
        rcases ho with ⟨a, -⟩ | ⟨-, b⟩
        · exact covers_sound h n (g1, w1) t hc a
        · simp [undef] at b
      · cases hc

theorem gval_sound {tm : List (AV K)} {tmps : Array Value} (h : Slots D ρ S w tm tmps) : ∀ (n g : Nat) (want e : Bool), gval tm n (g, want) = some e → (e = true ↔ tmps[g]? = some (.bool want))
  | 0, g, want, e, hc => by simp [gval] at hc
  | n + 1, g, want, e, hc => by
    simp only [gval] at hc
    split at hc
    · rename_i b hv
      obtain ⟨x, hx, ho⟩ := h.get hv
      simp only [SlotOk] at ho
      rw [rep_bool ho] at hx
      simp only [Option.some.injEq] at hc; subst hc
      rw [hx]; simp
    · rename_i g1 w1 b hv
      obtain ⟨x, hx, ho⟩ := h.get hv
      simp only [Option.map_eq_some_iff] at hc
      obtain ⟨e1, he1, rfl⟩ := hc
      have ih := gval_sound h n g1 w1 e1 he1
      rcases ho with ⟨a, ho⟩ | ⟨a, ho⟩
      · rw [rep_bool ho] at hx
        rw [ih.2 a, hx]; simp
      · have : e1 = false := by cases e1; rfl; exact absurd (ih.1 rfl) a
        rw [this, hx, ho]; simp [undef]
    · cases hc

theorem eval_tmp {a : Act} {t : Nat} {x : Value} (h : a.tmps[t]? = some x) : a.eval (.tmp t) = x := by simp [Act.eval, Array.getD_eq_getD_getElem?, h]

theorem evS_sound {tm : List (AV K)} {a : Act} (h : Slots D ρ S w tm a.tmps) {gs : List (Nat × Bool)} (hg : ∀ p ∈ gs, a.tmps[p.1]? = some (.bool p.2)) (x : Operand) : Rep D ρ S w (evS tm gs x) (a.eval x) := by
  cases x with
  | tmp t =>
    simp only [evS]
    split
    · rename_i g w1 v hv
      split
      · rename_i hc
        obtain ⟨y, hy, ho⟩ := h.get hv
        rw [eval_tmp hy]
        obtain ⟨p, hp, hcov⟩ := List.any_eq_true.1 hc
        have := covers_sound h 6 p (g, w1) hcov (hg p hp)
        rcases ho with ⟨-, ho⟩ | ⟨n, -⟩
        · exact ho
        · exact absurd this n
      · exact .any _
    · rename_i v hne hv
      obtain ⟨y, hy, ho⟩ := h.get hv
      rw [eval_tmp hy]
      cases v <;> first | exact ho | exact absurd rfl (hne _ _ _)
    · exact .any _
  | const v =>
    simp only [evS, Act.eval]
    cases hv : (ofVal v : Option (AV K)) with
    | none => exact .any _
    | some y => exact ofVal_rep v y hv
  | global g => exact .any _
  | func f => exact .fn (caps := []) (vs := []) rfl (fun i v x h => by simp at h)

mutual
theorem merge_true : ∀ (x y : AV K) (v : Value), Rep D ρ S w x v → Rep D ρ S w (merge true x y) v
  | .int k m, y, v, h => by cases y <;> first | exact .any _ | (simp only [merge]; split <;> first | exact h | exact .any _)
  | .bool m, y, v, h => by cases y <;> first | exact .any _ | exact h
  | .str m, y, v, h => by cases y <;> first | exact .any _ | exact h
  | .dsl c l, y, v, h => by
    cases y <;> first | exact .any _ | skip
    rename_i c' l'
    simp only [merge]
    cases hd : K.deq c c' with
    | isTrue he => subst he; exact h
    | isFalse hn => exact .any _
  | .agg l, y, v, h => by
    cases y <;> first | exact .any _ | skip
    rename_i l'
    simp only [merge]
    split
    · rename_i he
      cases h with
      | agg hl hr =>
        have := merges_true l l' he _ ⟨hl, hr⟩
        exact .agg this.1 this.2
    · exact .any _
  | .nilsl, y, v, h => by cases y <;> first | exact .any _ | exact h
  | .nilp, y, v, h => by cases y <;> first | exact .any _ | exact h
  | .any, y, v, h | .fn _ _, y, v, h | .ptr _ _, y, v, h | .sl _, y, v, h | .ep _ _ _ _, y, v, h | .rp _ _ _, y, v, h | .tup _, y, v, h | .np _, y, v, h | .opt _ _ _, y, v, h => by simp only [merge]; exact .any _
theorem merges_true : ∀ (l l' : List (AV K)), l.length = l'.length → ∀ (vs : List Value), Reps D ρ S w l vs → Reps D ρ S w (merges true l l') vs
  | [], l', hl, vs, h => by cases l' <;> simp [merges] <;> exact h
  | x :: r, [], hl, vs, h => by simp at hl
  | x :: r, y :: s, hl, vs, h => by
    obtain ⟨u, t, rfl, h1, h2⟩ := h.uncons
    simp only [merges]
    exact .cons (merge_true x y u h1) (merges_true r s (by simpa using hl) t h2)
end
mutual
theorem merge_false : ∀ (x y : AV K) (v : Value), Rep D ρ S w y v → Rep D ρ S w (merge false x y) v
  | .int k m, y, v, h => by cases y <;> first | exact .any _ | (simp only [merge]; split <;> first | (rename_i he; subst he; exact h) | exact .any _)
  | .bool m, y, v, h => by cases y <;> first | exact .any _ | exact h
  | .str m, y, v, h => by cases y <;> first | exact .any _ | exact h
  | .dsl c l, y, v, h => by
    cases y <;> first | exact .any _ | skip
    rename_i c' l'
    simp only [merge]
    cases hd : K.deq c c' with
    | isTrue he => subst he; exact h
    | isFalse hn => exact .any _
  | .agg l, y, v, h => by
    cases y <;> first | exact .any _ | skip
    rename_i l'
    simp only [merge]
    split
    · rename_i he
      cases h with
      | agg hl hr =>
        have := merges_false l l' he _ ⟨hl, hr⟩
        exact .agg this.1 this.2
    · exact .any _
  | .nilsl, y, v, h => by cases y <;> first | exact .any _ | exact h
  | .nilp, y, v, h => by cases y <;> first | exact .any _ | exact h
  | .any, y, v, h | .fn _ _, y, v, h | .ptr _ _, y, v, h | .sl _, y, v, h | .ep _ _ _ _, y, v, h | .rp _ _ _, y, v, h | .tup _, y, v, h | .np _, y, v, h | .opt _ _ _, y, v, h => by simp only [merge]; exact .any _
theorem merges_false : ∀ (l l' : List (AV K)), l.length = l'.length → ∀ (vs : List Value), Reps D ρ S w l' vs → Reps D ρ S w (merges false l l') vs
  | [], l', hl, vs, h => by cases l' <;> simp [merges] at hl ⊢ <;> exact h
  | x :: r, [], hl, vs, h => by simp at hl
  | x :: r, y :: s, hl, vs, h => by
    obtain ⟨u, t, rfl, h1, h2⟩ := h.uncons
    simp only [merges]
    exact .cons (merge_false x y u h1) (merges_false r s (by simpa using hl) t h2)
end
theorem merge_sound {b : Bool} {x y : AV K} {v : Value} (h1 : b = true → Rep D ρ S w x v) (h2 : b = false → Rep D ρ S w y v) : Rep D ρ S w (merge b x y) v := by
  cases b
  · exact merge_false x y v (h2 rfl)
  · exact merge_true x y v (h1 rfl)

end Go.V
