/-
  WHAT A CALL LEAVES, PUT BACK AMONG THE CALLER's OBJECTS.
-/
import Derived.Test.YtjnemekhocfmlaaGreatXWcallA
set_option linter.unusedVariables false
namespace Go.V
open Go
variable {K : Uni} {D : Cod K} {ρ ρ' : List Value} {S S' : Nat → Prop} {w w' : World} {H H' : List (Ob K)}

theorem reOb_foot {f : Nat → Option Nat} {o o' : Ob K} (h : reOb f o = some o') {r : Value} {b : Nat} : Foot D w o' r b ↔ Foot D w o r b := by
  cases o <;> simp [reOb] at h
  · subst h; exact Iff.rfl
  · obtain ⟨l, -, rfl⟩ := h; exact Iff.rfl
  · subst h; exact Iff.rfl
  · subst h; exact Iff.rfl
  · subst h; exact Iff.rfl
theorem reOb_live {f : Nat → Option Nat} {o o' : Ob K} (h : reOb f o = some o') : o'.live = o.live := by
  cases o <;> simp [reOb] at h
  · subst h; rfl
  · obtain ⟨l, -, rfl⟩ := h; rfl
  · subst h; rfl
  · subst h; rfl
  · subst h; rfl
theorem reHs_npHead {f : Nat → Option Nat} {l l' : List (AV K)} (h : reHs f l = some l') (hn : npHead l' = true) : npHead l = true := by
  cases l with
  | nil => simp [reHs] at h; subst h; cases hn
  | cons v r =>
    simp only [reHs] at h
    split at h
    · rename_i x y hx hy
      simp only [Option.some.injEq] at h; subst h
      cases v <;> simp only [reH, Option.map_eq_some_iff, Option.some.injEq, reduceCtorEq] at hx <;> first | rfl | (subst hx; cases hn) | (obtain ⟨a, -, rfl⟩ := hx; cases hn)
    · cases h
theorem reOb_sound (hD : CodOk D) {f : Nat → Option Nat} (hm : Ren f ρ ρ') {o o' : Ob K} {r : Value} (h : reOb f o = some o') (hs : ObSat D ρ S w o r) : ObSat D ρ' S w o' r := by
  cases o with
  | dead => simp [reOb] at h; subst h; trivial
  | fro c l => simp [reOb] at h; subst h; exact Rep.closed hD hs rfl
  | box cs =>
    simp only [reOb, Option.map_eq_some_iff] at h
    obtain ⟨l, hl, rfl⟩ := h
    obtain ⟨b, vs, T, e, h1, h2, h3⟩ := hs
    exact ⟨b, vs, T, e, h1, reHs_sound hD hm cs l _ hl h2, fun hn => h3 (reHs_npHead hl hn)⟩
  | tree c l => simp [reOb] at h; subst h; exact hs
  | opn c l i off cs => simp [reOb] at h
  | arr c l =>
    simp [reOb] at h; subst h
    rcases hs with hs | ⟨b, o, cap, vs, T, fr, e, h1, h2, h3, h4, h5⟩
    · exact .inl hs
    · exact .inr ⟨b, o, cap, vs, T, fr, e, h1, h2, h3, h4, fun i x hx => (h5 i x hx).closed hD (hD.closed _ _)⟩

theorem allOb_spec {f : Ob K → Option (Ob K)} : ∀ (l l' : List (Ob K)), allOb f l = some l' → l'.length = l.length ∧ ∀ (i : Nat) o o', l[i]? = some o → l'[i]? = some o' → f o = some o'
  | [], l', h => by simp [allOb] at h; subst h; exact ⟨rfl, fun i o o' h => by simp at h⟩
  | x :: r, l', h => by
    simp only [allOb] at h
    split at h
    · rename_i y s hy hs
      simp only [Option.some.injEq] at h; subst h
      obtain ⟨h1, h2⟩ := allOb_spec r s hs
      refine ⟨by simp [h1], fun i o o' ho ho' => ?_⟩
      cases i with
      | zero => simp at ho ho'; subst ho; subst ho'; exact hy
      | succ i => exact h2 i o o' (by simpa using ho) (by simpa using ho')
    · cases h

theorem passOk_spec : ∀ (m : List Nat), passOk H m = true → (∀ (i h : Nat), m[i]? = some h → h < H.length) ∧ ∀ (i j h : Nat), m[i]? = some h → m[j]? = some h → i = j
  | [], _ => ⟨fun i h hi => by simp at hi, fun i j h hi => by simp at hi⟩
  | x :: r, hp => by
    simp only [passOk, Bool.and_eq_true, decide_eq_true_eq, Bool.not_eq_true', List.contains_eq_mem, decide_eq_false_iff_not] at hp
    obtain ⟨h1, h2⟩ := passOk_spec r hp.2.2
    refine ⟨fun i h hi => ?_, fun i j h hi hj => ?_⟩
    · cases i with
      | zero => simp at hi; subst hi; exact hp.1
      | succ i => exact h1 i h (by simpa using hi)
    · cases i with
      | zero =>
        cases j with
        | zero => rfl
        | succ j => simp at hi hj; subst hi; exact absurd (List.mem_of_getElem? hj) hp.2.1
      | succ i =>
        cases j with
        | zero => simp at hi hj; subst hj; exact absurd (List.mem_of_getElem? hi) hp.2.1
        | succ j => rw [h2 i j h (by simpa using hi) (by simpa using hj)]

theorem putBack_length : ∀ (m : List Nat) (H os : List (Ob K)), (putBack H m os).length = H.length
  | [], H, os => by simp [putBack]
  | h :: m, H, [] => by simp [putBack]
  | h :: m, H, o :: r => by simp [putBack, putBack_length m]
theorem putBack_get : ∀ (m : List Nat) (H os : List (Ob K)), m.length ≤ os.length → ∀ (k : Nat) (o : Ob K), (putBack H m os)[k]? = some o → (k ∉ m ∧ H[k]? = some o) ∨ ∃ i : Nat, m[i]? = some k ∧ os[i]? = some o
  | [], H, os, _, k, o, h => .inl ⟨by simp, by simpa [putBack] using h⟩
  | x :: m, H, [], hl, k, o, h => by simp at hl
  | x :: m, H, y :: r, hl, k, o, h => by
    rcases putBack_get m (H.set x y) r (by simpa using hl) k o (by simpa [putBack] using h) with ⟨h1, h2⟩ | ⟨i, h1, h2⟩
    · rcases get_set h2 with ⟨rfl, rfl, -⟩ | ⟨hne, h2⟩
      · exact .inr ⟨0, rfl, rfl⟩
      · exact .inl ⟨by simp [hne, h1], h2⟩
    · exact .inr ⟨i + 1, by simpa using h1, by simpa using h2⟩

theorem backMap_get {m : List Nat} {n k i j : Nat} (h : (backMap m n k)[i]? = some j) : (i < m.length ∧ m[i]? = some j) ∨ (m.length ≤ i ∧ i < k ∧ j = n + (i - m.length)) := by
  unfold backMap at h
  by_cases hi : i < m.length
  · rw [List.getElem?_append_left hi] at h; exact .inl ⟨hi, h⟩
  · rw [List.getElem?_append_right (by omega)] at h
    simp only [List.getElem?_map, Option.map_eq_some_iff] at h
    obtain ⟨a, ha, rfl⟩ := h
    have := List.getElem?_eq_some_iff.1 ha
    obtain ⟨h1, h2⟩ := this
    simp at h1 h2
    exact .inr ⟨by omega, by omega, by omega⟩

theorem join (hD : CodOk D) (hs : HeapSat D ρ S w H) {m : List Nat} (hm : passOk H m = true) {ρi : List Value} {Hi : List (Ob K)} (hρi : ∀ (i h : Nat), m[i]? = some h → ρi[i]? = ρ[h]?) (hil : Hi.length = m.length)
    (hHi : ∀ (i h : Nat) o, m[i]? = some h → Hi[i]? = some o → ∃ o0, H[h]? = some o0 ∧ o0.live = o.live ∧ ∀ r b, Foot D w o r b ↔ Foot D w o0 r b) (hsi : HeapSat D ρi S w Hi)
    {ρo : List Value} {So : Nat → Prop} {Ho Ho' : List (Ob K)} (hso : HeapSat D ρo So w' Ho) (st : Step D Hi.length ρi S Hi w ρo So Ho w') (hle : Hi.length ≤ Ho.length) (hb : allOb (backOb (backMap m H.length Ho.length)) Ho = some Ho') :
    HeapSat D (ρ ++ ρo.drop m.length) So w' (putBack H m (Ho'.take m.length) ++ Ho'.drop m.length) ∧
      Step D H.length ρ S H w (ρ ++ ρo.drop m.length) So (putBack H m (Ho'.take m.length) ++ Ho'.drop m.length) w' ∧
      Ren (fun h => (backMap m H.length Ho.length)[h]?) ρo (ρ ++ ρo.drop m.length) := by
  obtain ⟨hmlt, hmnd⟩ := passOk_spec m hm
  obtain ⟨hol, hog⟩ := allOb_spec _ _ hb
  have hlen := hs.len
  have hilen := hsi.len
  have holen := hso.len
  have hren : Ren (fun h => (backMap m H.length Ho.length)[h]?) ρo (ρ ++ ρo.drop m.length) := fun i j r hij hr => by
    rcases backMap_get hij with ⟨h1, h2⟩ | ⟨h1, h2, rfl⟩
    · rw [List.getElem?_append_left (by rw [hlen]; exact hmlt i j h2), ← hρi i j h2, ← st.pre i (by omega)]; exact hr
    · rw [List.getElem?_append_right (by omega), List.getElem?_drop, ← hr]; congr 1; omega
  -- where an object of the whole comes from
  have hget : ∀ {k : Nat} {o : Ob K} {r : Value}, (putBack H m (Ho'.take m.length) ++ Ho'.drop m.length)[k]? = some o → (ρ ++ ρo.drop m.length)[k]? = some r →
      (k ∉ m ∧ H[k]? = some o ∧ ρ[k]? = some r) ∨ ∃ i o1, (backMap m H.length Ho.length)[i]? = some k ∧ Ho[i]? = some o1 ∧ backOb (backMap m H.length Ho.length) o1 = some o ∧ ρo[i]? = some r := fun {k o r} ho hr => by
    have inner : ∀ {i : Nat}, (backMap m H.length Ho.length)[i]? = some k → Ho'[i]? = some o → ∃ i o1, (backMap m H.length Ho.length)[i]? = some k ∧ Ho[i]? = some o1 ∧ backOb (backMap m H.length Ho.length) o1 = some o ∧ ρo[i]? = some r := fun {i} h1 h2 => by
      have hi : i < Ho.length := by rw [← hol]; exact (List.getElem?_eq_some_iff.1 h2).1
      have hg := List.getElem?_eq_getElem hi
      have hρ := List.getElem?_eq_getElem (show i < ρo.length by omega)
      refine ⟨i, _, h1, hg, hog i _ _ hg h2, ?_⟩
      rw [hρ, ← hr, ← hren i k _ h1 hρ]
    by_cases hk : k < H.length
    · rw [List.getElem?_append_left (by rw [putBack_length]; exact hk)] at ho
      rcases putBack_get m H _ (by simp; omega) k o ho with ⟨h1, h2⟩ | ⟨i, h1, h2⟩
      · exact .inl ⟨h1, h2, by rwa [List.getElem?_append_left (by omega)] at hr⟩
      · have him := (List.getElem?_eq_some_iff.1 h1).1
        rw [List.getElem?_take, if_pos him] at h2
        exact .inr (inner (by unfold backMap; rw [List.getElem?_append_left him]; exact h1) h2)
    · rw [List.getElem?_append_right (by rw [putBack_length]; omega), putBack_length, List.getElem?_drop] at ho
      have hlt := (List.getElem?_eq_some_iff.1 ho).1
      refine .inr (inner (i := m.length + (k - H.length)) ?_ ho)
      unfold backMap
      rw [List.getElem?_append_right (by omega)]
      simp only [List.getElem?_map, Option.map_eq_some_iff]
      refine ⟨k - H.length, ?_, by omega⟩
      rw [List.getElem?_range (by omega)]; congr 1; omega
  have hinj : ∀ {i j k : Nat}, (backMap m H.length Ho.length)[i]? = some k → (backMap m H.length Ho.length)[j]? = some k → i = j := fun {i j k} h1 h2 => by
    rcases backMap_get h1 with ⟨a1, a2⟩ | ⟨a1, a2, a3⟩ <;> rcases backMap_get h2 with ⟨b1, b2⟩ | ⟨b1, b2, b3⟩
    · exact hmnd i j k a2 b2
    · have := hmlt i k a2; omega
    · have := hmlt j k b2; omega
    · omega
  have howni : ∀ b, Own D w ρi Hi b → Own D w ρ H b := fun b ⟨i, o, r, h1, h2, h3, h4⟩ => by
    have hi : i < m.length := by rw [← hil]; exact (List.getElem?_eq_some_iff.1 h1).1
    have hmi := List.getElem?_eq_getElem hi
    obtain ⟨o0, e1, e2, e3⟩ := hHi i _ o hmi h1
    exact ⟨_, o0, r, e1, by rw [e2]; exact h2, by rw [← hρi i _ hmi]; exact h3, (e3 r b).1 h4⟩
  -- an old object that was not handed over owns nothing of the call's
  have hapart : ∀ {k : Nat} {o : Ob K} {r : Value} {b : Nat}, k ∉ m → H[k]? = some o → o.live = true → ρ[k]? = some r → Foot D w o r b → ¬ Own D w ρi Hi b := fun {k o r b} hk h1 h2 h3 h4 ⟨i, o1, r1, g1, g2, g3, g4⟩ => by
    have hi : i < m.length := by rw [← hil]; exact (List.getElem?_eq_some_iff.1 g1).1
    have hmi := List.getElem?_eq_getElem hi
    obtain ⟨o0, e1, e2, e3⟩ := hHi i _ o1 hmi g1
    have := hs.dist k _ o o0 r r1 b h1 h2 h3 h4 e1 (by rw [e2]; exact g2) (by rw [← hρi i _ hmi]; exact g3) ((e3 r1 b).1 g4)
    exact hk (by rw [this]; exact List.getElem_mem hi)
  have hkeep : ∀ {k : Nat} {o : Ob K} {r : Value}, k ∉ m → H[k]? = some o → o.live = true → ρ[k]? = some r → ∀ b, Foot D w o r b → w'.heap[b]? = w.heap[b]? := fun {k o r} hk h1 h2 h3 b h4 => st.old b (hs.lt b ⟨k, o, r, h1, h2, h3, h4⟩).1 (hapart hk h1 h2 h3 h4)
  have hSw : ∀ b, S b → w'.heap[b]? = w.heap[b]? := st.readS hsi
  have hpre : ∀ (h : Nat) r, ρ[h]? = some r → (ρ ++ ρo.drop m.length)[h]? = some r := fun _ _ h => get_pre h
  have howno : ∀ b, Own D w' (ρ ++ ρo.drop m.length) (putBack H m (Ho'.take m.length) ++ Ho'.drop m.length) b → (Own D w ρ H b ∧ ¬ Own D w ρi Hi b) ∨ Own D w' ρo Ho b := fun b ⟨k, o, r, h1, h2, h3, h4⟩ => by
    rcases hget h1 h3 with ⟨a1, a2, a3⟩ | ⟨i, o1, a1, a2, a3, a4⟩
    · have h4' := h4.old (hkeep a1 a2 h2 a3)
      exact .inl ⟨⟨k, o, r, a2, h2, a3, h4'⟩, hapart a1 a2 h2 a3 h4'⟩
    · exact .inr ⟨i, o1, r, a2, by rw [← reOb_live a3]; exact h2, a4, (reOb_foot a3).1 h4⟩
  refine ⟨⟨?_, ?_, ?_, ?_, hso.slt, hso.base⟩, ⟨st.os, st.tape, st.output, st.size, fun b hb hno => st.old b hb fun h => hno (howni b h), fun b hb => ?_, st.s1, fun b hb => ?_, fun h hh => ?_⟩, hren⟩
  · simp only [List.length_append, putBack_length, List.length_drop]; omega
  · intro k o r h1 h3
    rcases hget h1 h3 with ⟨a1, a2, a3⟩ | ⟨i, o1, a1, a2, a3, a4⟩
    · exact (hs.ob k o r a2 a3).mono st.s1 hSw hpre fun b hl hb => hkeep a1 a2 hl a3 b hb
    · exact reOb_sound hD hren a3 (hso.ob i o1 r a2 a4)
  · intro k k' o o' r r' b h1 h2 h3 h4 g1 g2 g3 g4
    rcases hget h1 h3 with ⟨a1, a2, a3⟩ | ⟨i, o1, a1, a2, a3, a4⟩
    · have h4' := h4.old (hkeep a1 a2 h2 a3)
      rcases hget g1 g3 with ⟨c1, c2, c3⟩ | ⟨j, o2, c1, c2, c3, c4⟩
      · exact hs.dist k k' o o' r r' b a2 h2 a3 h4' c2 g2 c3 (g4.old (hkeep c1 c2 g2 c3))
      · exfalso
        rcases st.own b ⟨j, o2, r', c2, by rw [← reOb_live c3]; exact g2, c4, (reOb_foot c3).1 g4⟩ with h | h
        · exact hapart a1 a2 h2 a3 h4' h
        · have := (hs.lt b ⟨k, o, r, a2, h2, a3, h4'⟩).1; omega
    · have h4' := (reOb_foot a3).1 h4
      rcases hget g1 g3 with ⟨c1, c2, c3⟩ | ⟨j, o2, c1, c2, c3, c4⟩
      · exfalso
        have g4' := g4.old (hkeep c1 c2 g2 c3)
        rcases st.own b ⟨i, o1, r, a2, by rw [← reOb_live a3]; exact h2, a4, h4'⟩ with h | h
        · exact hapart c1 c2 g2 c3 g4' h
        · have := (hs.lt b ⟨k', o', r', c2, g2, c3, g4'⟩).1; omega
      · have := hso.dist i j o1 o2 r r' b a2 (by rw [← reOb_live a3]; exact h2) a4 h4' c2 (by rw [← reOb_live c3]; exact g2) c4 ((reOb_foot c3).1 g4)
        subst this
        rw [a1] at c1; simpa using c1
  · intro b hb
    rcases howno b hb with ⟨h1, h2⟩ | h
    · refine ⟨Nat.lt_of_lt_of_le (hs.lt b h1).1 st.size, fun hS => ?_⟩
      rcases st.s2 b hS with h | h | h
      · exact (hs.lt b h1).2 h
      · exact h2 h
      · have := (hs.lt b h1).1; omega
    · exact hso.lt b h
  · rcases howno b hb with ⟨h1, h2⟩ | h
    · exact .inl h1
    · exact (st.own b h).imp (howni b) id
  · exact (st.s2 b hb).imp id (Or.imp (howni b) id)
  · rw [List.getElem?_append_left (by omega)]

end Go.V
