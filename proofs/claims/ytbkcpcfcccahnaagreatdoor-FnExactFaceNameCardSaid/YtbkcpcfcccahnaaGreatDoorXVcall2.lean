/-
  A FUNCTION's CONTRACT; A CALL BY ITS CONTRACT.
-/
import Derived.Test.YtbkcpcfcccahnaaGreatDoorXVcall
set_option linter.unusedVariables false
namespace Go.V
open Go
variable {K : Uni} {D : Cod K} {ρ ρ' : List Value} {S S' : Nat → Prop} {w w' : World} {H H' : List (Ob K)}

/-- f is a function with a body of its own -/
def FnOk (P : Program) (f : FuncId) : Prop := ∃ fn, P.funcs[f]? = some fn ∧ (fn.name == "runtime.NumGoroutine") = false ∧ fn.body.isNone = false

/-- f, called with what reads as 'args' over the objects H, returns what reads as r, and leaves the objects H' -/
def RC (D : Cod K) (P : Program) (f : FuncId) (args : List (AV K)) (H : List (Ob K)) (r : AV K) (H' : List (Ob K)) : Prop :=
  FnOk P f ∧ ∀ (ρ : List Value) (S : Nat → Prop) (w : World) (vals : List Value), HeapSat D ρ S w H → Reps D ρ S w args vals →
    Calls P f vals.toArray w fun e w' => ∃ u ρ' S', e = .returned u ∧ HeapSat D ρ' S' w' H' ∧ Rep D ρ' S' w' r u ∧ Step H.length ρ S H w ρ' S' H' w'

theorem lendC_sound (hs : HeapSat D ρ S w H) (x : AV K) (v : Value) (hx : Rep D ρ S w x v) : Rep D ρ (fun b => S b ∨ Own ρ H b) w (lendC H x) v := by
  cases x with
  | sl h =>
    obtain ⟨hp, a, n, c, rfl⟩ := rep_sl hx
    simp only [lendC]
    split
    · rename_i cc l hob
      rcases ob_arr0 hs hob hp with ⟨e, rfl⟩ | ⟨b, o, cap, vs, T, fr, e, hblk, ⟨hcap, hAT⟩, hsz, hfr, hall⟩
      · rw [e]; exact .dsl0 _ _
      · rw [e] at hp ⊢
        refine .dsl (fun i => seg vs (o + i * K.sz cc) (K.sz cc)) (.inr ⟨h, _, _, hob, rfl, hp, rfl⟩) hcap (fun i x hx => (hall i x hx).1.symm) (fun i _ => cellsAt_block hblk _ _) (fun i x hx j v y hv hy => ?_)
        exact ((hall i x hx).2 j v y hv hy).mono (fun _ h => .inl h) (fun _ _ => rfl) (fun _ _ h => h)
    · rename_i cc l hob
      have := hs.ob _ _ _ hob hp
      exact Rep.mono (fun _ h => .inl h) (fun _ _ => rfl) (fun _ _ h => h) this
    · exact .any _
  | _ => exact hx.mono (fun _ h => .inl h) (fun _ _ => rfl) (fun _ _ h => h)
theorem lendCs_sound (hs : HeapSat D ρ S w H) (l : List (AV K)) (vs : List Value) (hx : Reps D ρ S w l vs) : Reps D ρ (fun b => S b ∨ Own ρ H b) w (l.map (lendC H)) vs :=
  ⟨by simp [hx.1], fun i v x hv hy => by
    rw [List.getElem?_map, Option.map_eq_some_iff] at hv
    obtain ⟨u, hu, rfl⟩ := hv
    exact lendC_sound hs u x (hx.2 i u x hu hy)⟩

mutual
theorem lend_sound (hD : CodOk D) (hs : HeapSat D ρ S w H) : ∀ (x : AV K) (v : Value), Rep D ρ S w x v → Rep D ρ (fun b => S b ∨ Own ρ H b) w (lend D H x) v
  | .sl h, v, hx => by
    obtain ⟨hp, a, n, c, rfl⟩ := rep_sl hx
    simp only [lend]
    split
    · rename_i cc l hob
      rcases ob_arr0 hs hob hp with ⟨e, rfl⟩ | ⟨b, o, cap, vs, T, fr, e, hblk, ⟨hcap, hAT⟩, hsz, hfr, hall⟩
      · rw [e]; exact .dsl0 _ _
      · rw [e] at hp ⊢
        refine .dsl (fun i => seg vs (o + i * K.sz cc) (K.sz cc)) (.inr ⟨h, _, _, hob, rfl, hp, rfl⟩) hcap (fun i x hx => (hall i x hx).1.symm) (fun i _ => cellsAt_block hblk _ _) (fun i x hx j v y hv hy => ?_)
        exact ((hall i x hx).2 j v y hv hy).mono (fun _ h => .inl h) (fun _ _ => rfl) (fun _ _ h => h)
    · rename_i cc l hob
      have := hs.ob _ _ _ hob hp
      exact Rep.mono (fun _ h => .inl h) (fun _ _ => rfl) (fun _ _ h => h) this
    · exact .any _
  | .ptr h off, v, hx => by
    obtain ⟨b, rfl, hp⟩ := rep_ptr hx
    simp only [lend]
    split
    · rename_i cs hob
      split
      · rename_i c hf
        split
        · rename_i y hdec
          obtain ⟨b', vs, T, e, hblk, hr, -⟩ := hs.ob _ _ _ hob hp
          simp only [Value.pointer.injEq, Option.some.injEq, Addr.mk.injEq] at e
          obtain ⟨rfl, -, -⟩ := e
          have hc := hD.dec c _ _ hdec ρ (fun b => S b ∨ Own ρ H b) w _ (lendCs_sound hs _ _ hr)
          have := Rep.rp (D := D) (ρ := ρ) (S := fun b => S b ∨ Own ρ H b) (w := w) (c := c) (x := y) (b := b) (o := 0) (off := off) vs.toList (.inr ⟨h, _, _, hob, rfl, hp, rfl⟩) hc.1.symm
            (fun j v hv => by simp [World.cell?, hblk]; simpa using hv) (fun j v y' h1 h2 => hc.2 j v y' h1 h2)
          rw [Nat.zero_add] at this
          exact this
        · exact .any _
      · exact .any _
    · exact .any _
  | .fn g l, v, hx => by
    cases hx with
    | fn hl hr =>
      have := lends_sound hD hs l _ ⟨hl, hr⟩
      exact .fn this.1 this.2
  | .agg l, v, hx => by
    cases hx with
    | agg hl hr =>
      have := lends_sound hD hs l _ ⟨hl, hr⟩
      exact .agg this.1 this.2
  | .tup l, v, hx => by
    cases hx with
    | tup hl hr =>
      have := lends_sound hD hs l _ ⟨hl, hr⟩
      exact .tup this.1 this.2
  | .any, v, hx | .int _ _, v, hx | .bool _, v, hx | .str _, v, hx | .nilp, v, hx | .nilsl, v, hx | .ep _ _ _ _, v, hx | .dsl _ _, v, hx | .rp _ _ _, v, hx | .np _, v, hx | .opt _ _ _, v, hx => by
    simp only [lend]; exact hx.mono (fun _ h => .inl h) (fun _ _ => rfl) (fun _ _ h => h)
theorem lends_sound (hD : CodOk D) (hs : HeapSat D ρ S w H) : ∀ (l : List (AV K)) (vs : List Value), Reps D ρ S w l vs → Reps D ρ (fun b => S b ∨ Own ρ H b) w (lends D H l) vs
  | [], vs, h => by rw [h.nil_iff]; exact .nil
  | x :: r, vs, h => by
    obtain ⟨u, t, rfl, h1, h2⟩ := h.uncons
    exact .cons (lend_sound hD hs x u h1) (lends_sound hD hs r t h2)
end

mutual
theorem lend_same : ∀ (x : AV K), hasSl x = false → lend D H x = x
  | .sl h, hx => by simp [hasSl] at hx
  | .ptr h o, hx => by simp [hasSl] at hx
  | .np h, hx => by simp [hasSl] at hx
  | .fn g l, hx => by simp only [lend]; rw [lends_same l (by simpa [hasSl] using hx)]
  | .agg l, hx => by simp only [lend]; rw [lends_same l (by simpa [hasSl] using hx)]
  | .tup l, hx => by simp only [lend]; rw [lends_same l (by simpa [hasSl] using hx)]
  | .any, hx | .int _ _, hx | .bool _, hx | .str _, hx | .nilp, hx | .nilsl, hx | .ep _ _ _ _, hx | .dsl _ _, hx | .rp _ _ _, hx | .opt _ _ _, hx => rfl
theorem lends_same : ∀ (l : List (AV K)), hasSls l = false → lends D H l = l
  | [], _ => rfl
  | x :: r, h => by
    simp only [hasSls, Bool.or_eq_false_iff] at h
    simp only [lends]; rw [lend_same x h.1, lends_same r h.2]
end

mutual
/-- a value that leads to no memory says the same everywhere -/
theorem noread_sound : ∀ (x : AV K) (v : Value), x.closed = true → hasRead x = false → Rep D ρ S w x v → Rep D ρ' S' w' x v
  | .any, v, _, _, h => .any _
  | .int _ _, v, _, _, h => by rw [rep_int h]; exact .int _ _
  | .bool _, v, _, _, h => by rw [rep_bool h]; exact .bool _
  | .str _, v, _, _, h => by rw [rep_str h]; exact .str _
  | .nilp, v, _, _, h => by cases h; exact .nilp
  | .nilsl, v, _, _, h => by cases h; exact .nilsl
  | .fn f l, v, hc, hr, h => by
    cases h with
    | fn hl hh =>
      have := noreads_sound l _ (by simpa [AV.closed] using hc) (by simpa [hasRead] using hr) ⟨hl, hh⟩
      exact .fn this.1 this.2
  | .agg l, v, hc, hr, h => by
    cases h with
    | agg hl hh =>
      have := noreads_sound l _ (by simpa [AV.closed] using hc) (by simpa [hasRead] using hr) ⟨hl, hh⟩
      exact .agg this.1 this.2
  | .tup l, v, hc, hr, h => by
    cases h with
    | tup hl hh =>
      have := noreads_sound l _ (by simpa [AV.closed] using hc) (by simpa [hasRead] using hr) ⟨hl, hh⟩
      exact .tup this.1 this.2
  | .np _, v, hc, _, _ | .ptr _ _, v, hc, _, _ | .sl _, v, hc, _, _ | .ep _ _ _ _, v, hc, _, _ | .opt _ _ _, v, hc, _, _ => by simp [AV.closed] at hc
  | .dsl _ _, v, _, hr, _ | .rp _ _ _, v, _, hr, _ => by simp [hasRead] at hr
theorem noreads_sound : ∀ (l : List (AV K)) (vs : List Value), closeds l = true → hasReads l = false → Reps D ρ S w l vs → Reps D ρ' S' w' l vs
  | [], vs, _, _, h => by rw [h.nil_iff]; exact .nil
  | x :: r, vs, hc, hr, h => by
    simp only [closeds, Bool.and_eq_true] at hc
    simp only [hasReads, Bool.or_eq_false_iff] at hr
    obtain ⟨u, t, rfl, h1, h2⟩ := h.uncons
    exact .cons (noread_sound x u hc.1 hr.1 h1) (noreads_sound r t hc.2 hr.2 h2)
end

/-- what a renaming of handles leaves true -/
def Ren (f : Nat → Option Nat) (ρ ρ' : List Value) : Prop := ∀ (i j : Nat) (r : Value), f i = some j → ρ[i]? = some r → ρ'[j]? = some r

mutual
theorem reH_sound (hD : CodOk D) {f : Nat → Option Nat} (hm : Ren f ρ ρ') : ∀ (x x' : AV K) (v : Value), reH f x = some x' → Rep D ρ S w x v → Rep D ρ' S w x' v
  | .ptr h o, x', v, hb, hx => by
    simp only [reH, Option.map_eq_some_iff] at hb
    obtain ⟨j, hj, rfl⟩ := hb
    obtain ⟨b, rfl, hp⟩ := rep_ptr hx
    exact .ptr (hm _ _ _ hj hp)
  | .np h, x', v, hb, hx => by
    simp only [reH, Option.map_eq_some_iff] at hb
    obtain ⟨j, hj, rfl⟩ := hb
    cases hx with
    | np0 => exact .np0
    | np hp => exact .np (hm _ _ _ hj hp)
  | .sl h, x', v, hb, hx => by
    simp only [reH, Option.map_eq_some_iff] at hb
    obtain ⟨j, hj, rfl⟩ := hb
    obtain ⟨hp, a, n, c, rfl⟩ := rep_sl hx
    exact .sl (hm _ _ _ hj hp)
  | .ep h s i o, x', v, hb, hx => by
    simp only [reH, Option.map_eq_some_iff] at hb
    obtain ⟨j, hj, rfl⟩ := hb
    obtain ⟨b, o', n, c, rfl, hp, hi⟩ := rep_ep hx
    exact .ep (hm _ _ _ hj hp) hi
  | .fn g l, x', v, hb, hx => by
    simp only [reH, Option.map_eq_some_iff] at hb
    obtain ⟨l', hl', rfl⟩ := hb
    cases hx with
    | fn hl hh =>
      have := reHs_sound hD hm l l' _ hl' ⟨hl, hh⟩
      exact .fn this.1 this.2
  | .agg l, x', v, hb, hx => by
    simp only [reH, Option.map_eq_some_iff] at hb
    obtain ⟨l', hl', rfl⟩ := hb
    cases hx with
    | agg hl hh =>
      have := reHs_sound hD hm l l' _ hl' ⟨hl, hh⟩
      exact .agg this.1 this.2
  | .tup l, x', v, hb, hx => by
    simp only [reH, Option.map_eq_some_iff] at hb
    obtain ⟨l', hl', rfl⟩ := hb
    cases hx with
    | tup hl hh =>
      have := reHs_sound hD hm l l' _ hl' ⟨hl, hh⟩
      exact .tup this.1 this.2
  | .opt _ _ _, x', v, hb, hx => by simp [reH] at hb
  | .any, x', v, hb, hx => by simp only [reH, Option.some.injEq] at hb; subst hb; exact .any _
  | .int _ _, x', v, hb, hx => by simp only [reH, Option.some.injEq] at hb; subst hb; rw [rep_int hx]; exact .int _ _
  | .bool _, x', v, hb, hx => by simp only [reH, Option.some.injEq] at hb; subst hb; rw [rep_bool hx]; exact .bool _
  | .str _, x', v, hb, hx => by simp only [reH, Option.some.injEq] at hb; subst hb; rw [rep_str hx]; exact .str _
  | .nilp, x', v, hb, hx => by simp only [reH, Option.some.injEq] at hb; subst hb; cases hx; exact .nilp
  | .nilsl, x', v, hb, hx => by simp only [reH, Option.some.injEq] at hb; subst hb; cases hx; exact .nilsl
  | .dsl c l, x', v, hb, hx => by simp only [reH, Option.some.injEq] at hb; subst hb; exact hx.closed hD rfl
  | .rp c y o, x', v, hb, hx => by simp only [reH, Option.some.injEq] at hb; subst hb; exact hx.closed hD rfl
theorem reHs_sound (hD : CodOk D) {f : Nat → Option Nat} (hm : Ren f ρ ρ') : ∀ (l l' : List (AV K)) (vs : List Value), reHs f l = some l' → Reps D ρ S w l vs → Reps D ρ' S w l' vs
  | [], l', vs, hb, h => by simp only [reHs, Option.some.injEq] at hb; subst hb; rw [h.nil_iff]; exact .nil
  | x :: r, l', vs, hb, h => by
    simp only [reHs] at hb
    split at hb
    · rename_i x1 r1 hx1 hr1
      simp only [Option.some.injEq] at hb; subst hb
      obtain ⟨u, t, rfl, h1, h2⟩ := h.uncons
      exact .cons (reH_sound hD hm x x1 u hx1 h1) (reHs_sound hD hm r r1 t hr1 h2)
    · cases hb
end

end Go.V
