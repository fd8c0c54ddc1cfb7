/-
  HOW THE OBJECTS ARE KEPT: a new object, one given up, one turned.
-/
import Derived.Test.YtbkcpcfcccahnaaGreatDoorXVrep
set_option linter.unusedVariables false
namespace Go.V
open Go
variable {K : Uni} {D : Cod K} {n0 : Nat} {ρ ρ' : List Value} {S S' : Nat → Prop} {w w' : World} {H H' : List (Ob K)}

theorem ObSat.mono (hS : ∀ b, S b → S' b) (hw : ∀ b, S b → w'.heap[b]? = w.heap[b]?) (hρ : ∀ (h : Nat) r, ρ[h]? = some r → ρ'[h]? = some r) {o : Ob K} {r : Value}
    (hb : ∀ b, o.live = true → blkOf r = some b → w'.heap[b]? = w.heap[b]?) (h : ObSat D ρ S w o r) : ObSat D ρ' S' w' o r := by
  cases o with
  | dead => trivial
  | fro c l => exact Rep.mono hS hw hρ h
  | box cs =>
    obtain ⟨b, vs, T, rfl, h1, h2, h3⟩ := h
    exact ⟨b, vs, T, rfl, by rw [hb b rfl rfl]; exact h1, h2.mono hS hw hρ, h3⟩
  | arr c l =>
    rcases h with h | ⟨b, o, cap, vs, T, fr, rfl, h1, h2, h3, h4, h5⟩
    · exact .inl h
    · exact .inr ⟨b, o, cap, vs, T, fr, rfl, by rw [hb b rfl rfl]; exact h1, h2, h3, h4, fun i x hx => (h5 i x hx).mono hS hw hρ⟩

theorem Own.of_get {h : Nat} {o : Ob K} {r : Value} {b : Nat} (h1 : H[h]? = some o) (h2 : o.live = true) (h3 : ρ[h]? = some r) (h4 : blkOf r = some b) : Own ρ H b := ⟨h, o, r, h1, h2, h3, h4⟩

theorem get_set {α : Type} {l : List α} {h k : Nat} {o x : α} (hx : (l.set h o)[k]? = some x) : (k = h ∧ x = o ∧ h < l.length) ∨ (k ≠ h ∧ l[k]? = some x) := by
  rw [List.getElem?_set] at hx
  by_cases hk : h = k
  · subst hk
    simp only [if_true] at hx
    split at hx
    · rename_i hl; simp at hx; exact .inl ⟨rfl, hx.symm, hl⟩
    · simp at hx
  · rw [if_neg hk] at hx; exact .inr ⟨Ne.symm hk, hx⟩

theorem own_kill {h b : Nat} (hb : Own ρ (H.set h .dead) b) : Own ρ H b := by
  obtain ⟨k, o, r, h1, h2, h3, h4⟩ := hb
  rcases get_set h1 with ⟨-, rfl, -⟩ | ⟨-, h1⟩
  · cases h2
  · exact ⟨k, o, r, h1, h2, h3, h4⟩

theorem HeapSat.kill (hs : HeapSat D ρ S w H) (h : Nat) : HeapSat D ρ S w (H.set h .dead) where
  len := by simp [hs.len]
  ob := fun k o r h1 h2 => by
    rcases get_set h1 with ⟨-, rfl, -⟩ | ⟨-, h1⟩
    · trivial
    · exact hs.ob k o r h1 h2
  dist := fun k k' o o' r r' b h1 h2 h3 h4 g1 g2 g3 g4 => by
    rcases get_set h1 with ⟨-, rfl, -⟩ | ⟨-, h1⟩
    · cases h2
    · rcases get_set g1 with ⟨-, rfl, -⟩ | ⟨-, g1⟩
      · cases g2
      · exact hs.dist k k' o o' r r' b h1 h2 h3 h4 g1 g2 g3 g4
  lt := fun b hb => hs.lt b (own_kill hb)
  slt := hs.slt
  base := hs.base

/-- what was killed is no object's own -/
theorem not_own_kill (hs : HeapSat D ρ S w H) {h : Nat} {o : Ob K} {r : Value} {b : Nat} (h1 : H[h]? = some o) (h2 : o.live = true) (h3 : ρ[h]? = some r) (h4 : blkOf r = some b) : ¬ Own ρ (H.set h .dead) b := by
  rintro ⟨k, o', r', g1, g2, g3, g4⟩
  rcases get_set g1 with ⟨-, rfl, -⟩ | ⟨hk, g1⟩
  · cases g2
  · exact hk (hs.dist k h o' o r' r b g1 g2 g3 g4 h1 h2 h3 h4)

/-- another world, in which what is own and what is only read is as it was -/
theorem HeapSat.world (hs : HeapSat D ρ S w H) (hsz : w.heap.size ≤ w'.heap.size) (ho : ∀ b, Own ρ H b → w'.heap[b]? = w.heap[b]?) (hS : ∀ b, S b → w'.heap[b]? = w.heap[b]?) : HeapSat D ρ S w' H where
  len := hs.len
  ob := fun k o r h1 h2 => (hs.ob k o r h1 h2).mono (fun _ h => h) hS (fun _ _ h => h) (fun b hl hb => ho b ⟨k, o, r, h1, hl, h2, hb⟩)
  dist := hs.dist
  lt := fun b hb => ⟨Nat.lt_of_lt_of_le (hs.lt b hb).1 hsz, (hs.lt b hb).2⟩
  slt := fun b hb => Nat.lt_of_lt_of_le (hs.slt b hb) hsz
  base := D.base.mono (fun _ h => h) hS hs.base

theorem get_push {α : Type} {l : List α} {x y : α} {k : Nat} (h : (l ++ [x])[k]? = some y) : l[k]? = some y ∨ (k = l.length ∧ y = x) := by
  by_cases hk : k < l.length
  · rw [List.getElem?_append_left hk] at h; exact .inl h
  · rw [List.getElem?_append_right (by omega)] at h
    have : k - l.length = 0 := by
      rcases Nat.eq_zero_or_pos (k - l.length) with h0 | h0
      · exact h0
      · rw [List.getElem?_eq_none (by simp; omega)] at h; cases h
    rw [this] at h; simp at h
    exact .inr ⟨by omega, h.symm⟩
theorem get_pre {l m : List Value} {k : Nat} {y : Value} (h : l[k]? = some y) : (l ++ m)[k]? = some y := by
  rw [List.getElem?_append_left (List.getElem?_eq_some_iff.1 h).1]; exact h

theorem own_push {r : Value} {o : Ob K} {b : Nat} (hl : ρ.length = H.length) (h : Own (ρ ++ [r]) (H ++ [o]) b) : Own ρ H b ∨ (o.live = true ∧ blkOf r = some b) := by
  obtain ⟨k, o', r', h1, h2, h3, h4⟩ := h
  rcases get_push h1 with h1 | ⟨rfl, rfl⟩
  · rcases get_push h3 with h3 | ⟨rfl, rfl⟩
    · exact .inl ⟨k, o', r', h1, h2, h3, h4⟩
    · have := (List.getElem?_eq_some_iff.1 h1).1; omega
  · rcases get_push h3 with h3 | ⟨_, rfl⟩
    · have := (List.getElem?_eq_some_iff.1 h3).1; omega
    · exact .inr ⟨h2, h4⟩

/-- a new object -/
theorem HeapSat.push (hs : HeapSat D ρ S w H) {o : Ob K} {r : Value} (ho : ObSat D (ρ ++ [r]) S w o r) (hb : ∀ b, o.live = true → blkOf r = some b → b < w.heap.size ∧ ¬ S b ∧ ¬ Own ρ H b) :
    HeapSat D (ρ ++ [r]) S w (H ++ [o]) where
  len := by simp [hs.len]
  ob := fun k o' r' h1 h2 => by
    rcases get_push h1 with h1 | ⟨rfl, rfl⟩
    · rcases get_push h2 with h2 | ⟨rfl, rfl⟩
      · exact (hs.ob k o' r' h1 h2).mono (fun _ h => h) (fun _ _ => rfl) (fun _ _ h => get_pre h) (fun _ _ _ => rfl)
      · have := (List.getElem?_eq_some_iff.1 h1).1; have := hs.len; omega
    · rcases get_push h2 with h2 | ⟨_, rfl⟩
      · have := (List.getElem?_eq_some_iff.1 h2).1; have := hs.len; omega
      · exact ho
  dist := fun k k' o1 o2 r1 r2 b h1 h2 h3 h4 g1 g2 g3 g4 => by
    have hl := hs.len
    have key : ∀ {k : Nat} {o1 : Ob K} {r1 : Value}, (H ++ [o])[k]? = some o1 → (ρ ++ [r])[k]? = some r1 → (H[k]? = some o1 ∧ ρ[k]? = some r1) ∨ (k = H.length ∧ o1 = o ∧ r1 = r) := fun {k o1 r1} a b => by
      rcases get_push a with a | ⟨rfl, rfl⟩
      · rcases get_push b with b | ⟨hk, _⟩
        · exact .inl ⟨a, b⟩
        · have := (List.getElem?_eq_some_iff.1 a).1; omega
      · rcases get_push b with b | ⟨_, rfl⟩
        · have := (List.getElem?_eq_some_iff.1 b).1; omega
        · exact .inr ⟨rfl, rfl, rfl⟩
    rcases key h1 h3 with ⟨a1, a3⟩ | ⟨a0, a1, a2⟩
    · rcases key g1 g3 with ⟨c1, c3⟩ | ⟨c0, c1, c2⟩
      · exact hs.dist k k' o1 o2 r1 r2 b a1 h2 a3 h4 c1 g2 c3 g4
      · subst c1; subst c2; exact absurd ⟨k, o1, r1, a1, h2, a3, h4⟩ (hb b g2 g4).2.2
    · rcases key g1 g3 with ⟨c1, c3⟩ | ⟨c0, c1, c2⟩
      · subst a1; subst a2; exact absurd ⟨k', o2, r2, c1, g2, c3, g4⟩ (hb b h2 h4).2.2
      · omega
  lt := fun b h => by
    rcases own_push hs.len h with h | ⟨hl, h⟩
    · exact hs.lt b h
    · exact ⟨(hb b hl h).1, (hb b hl h).2.1⟩
  slt := hs.slt
  base := hs.base

/-- an object in the place of one that is dead -/
theorem HeapSat.revive (hs : HeapSat D ρ S w H) {h : Nat} {o : Ob K} {r : Value} (h0 : H[h]? = some .dead) (hr : ρ[h]? = some r) (ho : ObSat D ρ S w o r) (hb : ∀ b, blkOf r = some b → b < w.heap.size ∧ ¬ S b ∧ ¬ Own ρ H b) :
    HeapSat D ρ S w (H.set h o) where
  len := by simp [hs.len]
  ob := fun k o' r' h1 h2 => by
    rcases get_set h1 with ⟨rfl, rfl, -⟩ | ⟨hk, h1⟩
    · rw [hr] at h2; simp at h2; subst h2; exact ho
    · exact hs.ob k o' r' h1 h2
  dist := fun k k' o1 o2 r1 r2 b h1 h2 h3 h4 g1 g2 g3 g4 => by
    rcases get_set h1 with ⟨rfl, rfl, -⟩ | ⟨hk, h1⟩
    · rcases get_set g1 with ⟨rfl, rfl, -⟩ | ⟨hk', g1⟩
      · rfl
      · rw [hr] at h3; simp at h3; subst h3
        exact absurd ⟨k', o2, r2, g1, g2, g3, g4⟩ (hb b h4).2.2
    · rcases get_set g1 with ⟨rfl, rfl, -⟩ | ⟨hk', g1⟩
      · rw [hr] at g3; simp at g3; subst g3
        exact absurd (Own.of_get (H := H) ‹_› h2 h3 h4) (hb b g4).2.2
      · exact hs.dist k k' o1 o2 r1 r2 b h1 h2 h3 h4 g1 g2 g3 g4
  lt := fun b ⟨k, o', r', h1, h2, h3, h4⟩ => by
    rcases get_set h1 with ⟨rfl, rfl, -⟩ | ⟨hk, h1⟩
    · rw [hr] at h3; simp at h3; subst h3; exact ⟨(hb b h4).1, (hb b h4).2.1⟩
    · exact hs.lt b ⟨k, o', r', h1, h2, h3, h4⟩
  slt := hs.slt
  base := hs.base

/-- an object is turned, its block with it -/
theorem HeapSat.turn (hs : HeapSat D ρ S w H) {h b : Nat} {o o' : Ob K} {r : Value} (h1 : H[h]? = some o) (h2 : o.live = true) (h3 : ρ[h]? = some r) (h4 : blkOf r = some b)
    (hsz : w'.heap.size = w.heap.size) (hw : ∀ k, k ≠ b → w'.heap[k]? = w.heap[k]?) (ho : ObSat D ρ S w' o' r) : HeapSat D ρ S w' (H.set h o') := by
  have hk := hs.kill h
  have hno := not_own_kill hs h1 h2 h3 h4
  have hlt := hs.lt b ⟨h, o, r, h1, h2, h3, h4⟩
  have hw1 : HeapSat D ρ S w' (H.set h .dead) := hk.world (by omega) (fun k hk' => hw k (fun e => by subst e; exact hno hk')) (fun k hk' => hw k (fun e => by subst e; exact hlt.2 hk'))
  have := hw1.revive (h := h) (o := o') (r := r) (by rw [List.getElem?_set]; simp [(List.getElem?_eq_some_iff.1 h1).1]) h3 ho (fun k hk' => by
    rw [h4] at hk'; simp at hk'; subst hk'; exact ⟨by omega, hlt.2, hno⟩)
  simpa using this

theorem own_turn {h b : Nat} {o o' : Ob K} (h1 : H[h]? = some o) (h2 : o.live = true) (hb : Own ρ (H.set h o') b) : Own ρ H b := by
  obtain ⟨k, o1, r, g1, g2, g3, g4⟩ := hb
  rcases get_set g1 with ⟨rfl, rfl, -⟩ | ⟨-, g1⟩
  · exact ⟨k, o, r, h1, h2, g3, g4⟩
  · exact ⟨k, o1, r, g1, g2, g3, g4⟩

theorem Step.turn (hs : HeapSat D ρ S w H) {h b : Nat} {o o' : Ob K} {r : Value} (h1 : H[h]? = some o) (h2 : o.live = true) (h3 : ρ[h]? = some r) (h4 : blkOf r = some b)
    (hsz : w'.heap.size = w.heap.size) (hw : ∀ k, k ≠ b → w'.heap[k]? = w.heap[k]?) (e1 : w'.os = w.os) (e2 : w'.tape = w.tape) (e3 : w'.output = w.output) : Step n0 ρ S H w ρ S (H.set h o') w' :=
  ⟨e1, e2, e3, by omega, fun k hk hno => hw k (fun e => by subst e; exact hno ⟨h, o, r, h1, h2, h3, h4⟩), fun k hk => .inl (own_turn h1 h2 hk), fun _ h => h, fun _ h => .inl h, fun _ _ => rfl⟩

/-- a new block, a new object -/
theorem HeapSat.new (hs : HeapSat D ρ S w H) {o : Ob K} {r : Value} (hsz : w.heap.size ≤ w'.heap.size) (hw : ∀ k, k < w.heap.size → w'.heap[k]? = w.heap[k]?) (ho : ObSat D (ρ ++ [r]) S w' o r)
    (hb : ∀ b, blkOf r = some b → w.heap.size ≤ b ∧ b < w'.heap.size) : HeapSat D (ρ ++ [r]) S w' (H ++ [o]) := by
  have h1 : HeapSat D ρ S w' H := hs.world hsz (fun b h => hw b (hs.lt b h).1) (fun b h => hw b (hs.slt b h))
  exact h1.push ho fun b _ h => ⟨(hb b h).2, fun hS => by have := hs.slt b hS; have := (hb b h).1; omega, fun hO => by have := (hs.lt b hO).1; have := (hb b h).1; omega⟩
theorem Step.new (hs : HeapSat D ρ S w H) {o : Ob K} {r : Value} (hsz : w.heap.size ≤ w'.heap.size) (hw : ∀ k, k < w.heap.size → w'.heap[k]? = w.heap[k]?)
    (hb : ∀ b, blkOf r = some b → w.heap.size ≤ b) (e1 : w'.os = w.os) (e2 : w'.tape = w.tape) (e3 : w'.output = w.output) : Step H.length ρ S H w (ρ ++ [r]) S (H ++ [o]) w' :=
  ⟨e1, e2, e3, hsz, fun k hk _ => hw k hk, fun k hk => by
    rcases own_push hs.len hk with h | ⟨-, h⟩
    · exact .inl h
    · exact .inr (hb k h), fun _ h => h, fun _ h => .inl h, fun k hk => by rw [List.getElem?_append_left (by rw [hs.len]; exact hk)]⟩

/-! ### given up -/

theorem ob_arr0 (hs : HeapSat D ρ S w H) {h : Nat} {c : K.U} {l : List (K.El c)} (ho : H[h]? = some (.arr c l)) {X : Value} (hp : ρ[h]? = some X) : (X = .slice none 0 0 ∧ l = []) ∨ ∃ b o cap vs T fr, X = .slice (some ⟨b, o, none⟩) l.length cap ∧ w.heap[b]? = some (.cells vs T fr) ∧ (l.length ≤ cap ∧ ArrT D c T o) ∧ o + cap * K.sz c ≤ vs.size ∧
      (∀ k, o ≤ k → k < o + cap * K.sz c → ¬ (fr.1 ≤ k ∧ k < fr.2)) ∧ ∀ i x, l[i]? = some x → Reps D ρ S w (D.cells c x) (seg vs (o + i * K.sz c) (K.sz c)) := hs.ob h _ _ ho hp

theorem frz_cells {w : World} {b o n : Nat} {vs : Array Value} {T : TypeId} {fr : Nat × Nat} (hb : w.heap[b]? = some (.cells vs T fr)) : CellsAt w b o (seg vs o n) := by
  intro j v hv
  simp only [seg, List.getElem?_take, List.getElem?_drop] at hv
  split at hv
  · simp [World.cell?, hb]; simpa using hv
  · cases hv

theorem frz1_sat (hs : HeapSat D ρ S w H) (h : Nat) : ∃ S', HeapSat D ρ S' w (frz1 H h) ∧ Step n0 ρ S H w ρ S' (frz1 H h) w ∧ (frz1 H h).length = H.length := by
  unfold frz1
  split
  · rename_i c l ho
    have hlen := hs.len
    have hlt : h < H.length := (List.getElem?_eq_some_iff.1 ho).1
    have hp : ρ[h]? = some ρ[h] := List.getElem?_eq_getElem (by omega)
    generalize ρ[h] = X at hp
    refine ⟨fun b => S b ∨ blkOf X = some b, ?_, ?_, by simp⟩
    · have hk := hs.kill h
      have hno : ∀ b, blkOf X = some b → ¬ Own ρ (H.set h .dead) b := fun b hb => not_own_kill hs ho rfl hp hb
      have hownf : ∀ b, Own ρ (H.set h (.fro c l)) b → Own ρ (H.set h .dead) b := fun b ⟨k, o, r, g1, g2, g3, g4⟩ => by
        rcases get_set g1 with ⟨-, rfl, -⟩ | ⟨hne, g1⟩
        · cases g2
        · exact ⟨k, o, r, by rw [List.getElem?_set, if_neg (Ne.symm hne)]; exact g1, g2, g3, g4⟩
      refine ⟨by simpa using hlen, fun k o r h1 h2 => ?_, fun k k' o o' r r' b h1 h2 h3 h4 g1 g2 g3 g4 => ?_, fun b hb => ?_, fun b hb => ?_, D.base.mono (fun _ h => .inl h) (fun _ _ => rfl) hs.base⟩
      · rcases get_set h1 with ⟨rfl, rfl, -⟩ | ⟨-, h1⟩
        · rw [hp] at h2; simp at h2; subst h2
          rcases ob_arr0 hs ho hp with ⟨e, rfl⟩ | ⟨b, o, cap, vs, T, fr, e, hblk, ⟨hcap, hAT⟩, hsz, hfr, hall⟩
          · rw [e]; exact .dsl0 _ _
          · rw [e]
            refine .dsl (fun i => seg vs (o + i * K.sz c) (K.sz c)) (.inr (by simp [blkOf])) hcap (fun i x hx => (hall i x hx).1.symm) (fun i _ => frz_cells hblk) (fun i x hx j v y hv hy => ?_)
            exact ((hall i x hx).2 j v y hv hy).mono (fun _ h => .inl h) (fun _ _ => rfl) (fun _ _ h => h)
        · exact (hs.ob k o r h1 h2).mono (fun _ h => .inl h) (fun _ _ => rfl) (fun _ _ h => h) (fun _ _ _ => rfl)
      · rcases get_set h1 with ⟨-, rfl, -⟩ | ⟨-, h1⟩
        · cases h2
        · rcases get_set g1 with ⟨-, rfl, -⟩ | ⟨-, g1⟩
          · cases g2
          · exact hs.dist k k' o o' r r' b h1 h2 h3 h4 g1 g2 g3 g4
      · have h1 := hownf b hb
        have := hs.lt b (own_kill h1)
        exact ⟨this.1, fun hS => hS.elim this.2 fun h2 => hno b h2 h1⟩
      · rcases hb with hb | hb
        · exact hs.slt b hb
        · exact (hs.lt b ⟨h, _, _, ho, rfl, hp, hb⟩).1
    · refine ⟨rfl, rfl, rfl, Nat.le_refl _, fun _ _ _ => rfl, fun b ⟨k, o, r, g1, g2, g3, g4⟩ => ?_, fun _ h => .inl h, fun b hb => ?_, fun _ _ => rfl⟩
      · rcases get_set g1 with ⟨-, rfl, -⟩ | ⟨-, g1⟩
        · cases g2
        · exact .inl ⟨k, o, r, g1, g2, g3, g4⟩
      · rcases hb with hb | hb
        · exact .inl hb
        · exact .inr (.inl ⟨h, _, _, ho, rfl, hp, hb⟩)
  · exact ⟨S, hs, Step.refl, rfl⟩

theorem frzAll_sat : ∀ (l : List Nat) {S : Nat → Prop} {H : List (Ob K)}, HeapSat D ρ S w H → ∃ S', HeapSat D ρ S' w (frzAll H l) ∧ Step n0 ρ S H w ρ S' (frzAll H l) w ∧ (frzAll H l).length = H.length
  | [], S, H, hs => ⟨S, hs, Step.refl, rfl⟩
  | h :: r, S, H, hs => by
    obtain ⟨S1, h1, h2, h3⟩ := frz1_sat (n0 := n0) hs h
    obtain ⟨S2, g1, g2, g3⟩ := frzAll_sat r h1
    exact ⟨S2, g1, h2.trans g2, by simp only [frzAll]; rw [g3, h3]⟩

mutual
theorem unfro_sound (hs : HeapSat D ρ S w H) : ∀ (x : AV K) (v : Value), Rep D ρ S w x v → Rep D ρ S w (unfro H x) v
  | .sl h, v, hx => by
    simp only [unfro]
    split
    · rename_i c l ho
      cases hx with
      | sl hp => exact hs.ob h _ _ ho hp
    · exact hx
  | .agg l, v, hx => by
    cases hx with
    | agg hl hr =>
      have := unfros_sound hs l _ ⟨hl, hr⟩
      exact .agg this.1 this.2
  | .tup l, v, hx => by
    cases hx with
    | tup hl hr =>
      have := unfros_sound hs l _ ⟨hl, hr⟩
      exact .tup this.1 this.2
  | .any, v, hx | .int _ _, v, hx | .bool _, v, hx | .str _, v, hx | .nilp, v, hx | .nilsl, v, hx | .fn _ _, v, hx | .ptr _ _, v, hx | .ep _ _ _ _, v, hx | .dsl _ _, v, hx | .rp _ _ _, v, hx | .np _, v, hx | .opt _ _ _, v, hx => by simpa only [unfro] using hx
theorem unfros_sound (hs : HeapSat D ρ S w H) : ∀ (l : List (AV K)) (vs : List Value), Reps D ρ S w l vs → Reps D ρ S w (unfros H l) vs
  | [], vs, h => by rw [h.nil_iff]; exact .nil
  | x :: r, vs, h => by
    obtain ⟨u, t, rfl, h1, h2⟩ := h.uncons
    exact .cons (unfro_sound hs x u h1) (unfros_sound hs r t h2)
end

/-! ### nil slices as objects -/

theorem nil_new (hs : HeapSat D ρ S w H) (c : K.U) : HeapSat D (ρ ++ [.slice none 0 0]) S w (H ++ [.arr c []]) ∧ Step H.length ρ S H w (ρ ++ [.slice none 0 0]) S (H ++ [.arr c []]) w :=
  ⟨hs.push (.inl ⟨rfl, rfl⟩) (fun b _ h => by simp [blkOf] at h), Step.new hs (Nat.le_refl _) (fun _ _ => rfl) (fun b h => by simp [blkOf] at h) rfl rfl rfl⟩

def ThawOk (D : Cod K) (S : Nat → Prop) (w : World) (H : List (Ob K)) (ρ vs : List Value) (p : List (AV K) × List (Ob K)) : Prop :=
  ∃ ρ', HeapSat D ρ' S w p.2 ∧ Reps D ρ' S w p.1 vs ∧ Step H.length ρ S H w ρ' S p.2 w ∧ (∀ (h : Nat) r, ρ[h]? = some r → ρ'[h]? = some r) ∧ H.length ≤ p.2.length ∧ (∀ (h : Nat) o, H[h]? = some o → p.2[h]? = some o)

theorem thaw_sound : ∀ (cs : List (Option K.U)) (l : List (AV K)) (H : List (Ob K)) (ρ : List Value) (vs : List Value), HeapSat D ρ S w H → Reps D ρ S w l vs → ThawOk D S w H ρ vs (thaw H cs l)
  | [], l, H, ρ, vs, hs, hr => ⟨ρ, by simpa [thaw] using hs, by simpa [thaw] using hr, by simpa [thaw] using Step.refl, fun _ _ h => h, by simp [thaw], fun _ _ h => by simpa [thaw] using h⟩
  | some c :: cs, [], H, ρ, vs, hs, hr => ⟨ρ, by simpa [thaw] using hs, by simpa [thaw] using hr, by simpa [thaw] using Step.refl, fun _ _ h => h, by simp [thaw], fun _ _ h => by simpa [thaw] using h⟩
  | none :: cs, [], H, ρ, vs, hs, hr => ⟨ρ, by simpa [thaw] using hs, by simpa [thaw] using hr, by simpa [thaw] using Step.refl, fun _ _ h => h, by simp [thaw], fun _ _ h => by simpa [thaw] using h⟩
  | oc :: cs, v :: r, H, ρ, vs, hs, hr => by
    obtain ⟨u, t, rfl, h1, h2⟩ := hr.uncons
    have keep : thaw H (oc :: cs) (v :: r) = (v :: (thaw H cs r).1, (thaw H cs r).2) → ThawOk D S w H ρ (u :: t) (thaw H (oc :: cs) (v :: r)) := fun e => by
      obtain ⟨ρ', g1, g2, g3, g4, g5, g6⟩ := thaw_sound cs r H ρ t hs h2
      rw [e]
      exact ⟨ρ', g1, .cons (h1.mono (fun _ h => h) (fun _ _ => rfl) g4) g2, g3, g4, g5, g6⟩
    cases oc with
    | none => exact keep (by cases v <;> rfl)
    | some c =>
      cases v with
      | nilsl =>
        obtain ⟨n1, n2⟩ := nil_new hs c
        have hpre : ∀ (h : Nat) r, ρ[h]? = some r → (ρ ++ [.slice none 0 0])[h]? = some r := fun _ _ h => get_pre h
        obtain ⟨ρ', g1, g2, g3, g4, g5, g6⟩ := thaw_sound cs r (H ++ [.arr c []]) _ t n1 (h2.mono (fun _ h => h) (fun _ _ => rfl) hpre)
        have e : thaw H (some c :: cs) (.nilsl :: r) = (.sl H.length :: (thaw (H ++ [.arr c []]) cs r).1, (thaw (H ++ [.arr c []]) cs r).2) := rfl
        rw [e]
        have hu : u = .slice none 0 0 := by cases h1; rfl
        refine ⟨ρ', g1, .cons ?_ g2, n2.trans (g3.weaken (by simp)), fun h r hr => g4 h r (hpre h r hr), by have g5 := g5; simp at g5; exact Nat.le_of_succ_le g5, fun h o ho => g6 h o ?_⟩
        · rw [hu]; exact .sl (g4 _ _ (by rw [List.getElem?_append_right (by rw [hs.len]; exact Nat.le_refl _)]; simp [hs.len]))
        · rw [List.getElem?_append_left (List.getElem?_eq_some_iff.1 ho).1]; exact ho
      | _ => exact keep rfl

end Go.V
