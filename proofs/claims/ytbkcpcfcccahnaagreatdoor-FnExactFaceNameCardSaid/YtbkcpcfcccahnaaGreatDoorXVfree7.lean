/-
  SUCH A REGION IN WHATEVER ORDER: from its start to its end.
-/
import Derived.Test.YtbkcpcfcccahnaaGreatDoorXVfree6
set_option linter.unusedVariables false
namespace Go.V
open Go
variable {K : Uni} {ρ ρ' : List Value} {S S' : Nat → Prop} {w w' : World} {H H' : List (Ob K)} {D : Cod K}

/-- places for the objects to come -/
def padH (H0 : List (Ob K)) (n : Nat) : List (Ob K) := H0 ++ List.replicate (n - H0.length) .dead
def padR (ρ : List Value) (n : Nat) : List Value := ρ ++ List.replicate (n - ρ.length) dummy

theorem padH_len {H0 : List (Ob K)} {n : Nat} (h : H0.length ≤ n) : (padH H0 n).length = n := by simp [padH]; omega
theorem padR_get {n h : Nat} {r : Value} (hr : ρ[h]? = some r) : (padR ρ n)[h]? = some r := by
  unfold padR; rw [List.getElem?_append_left (List.getElem?_eq_some_iff.1 hr).1]; exact hr
theorem padH_get {H0 : List (Ob K)} {n h : Nat} {o : Ob K} (ho : (padH H0 n)[h]? = some o) : H0[h]? = some o ∨ (H0.length ≤ h ∧ o = .dead) := by
  unfold padH at ho
  rcases Nat.lt_or_ge h H0.length with h1 | h1
  · rw [List.getElem?_append_left h1] at ho; exact .inl ho
  · rw [List.getElem?_append_right h1, List.getElem?_replicate] at ho
    split at ho
    · simp at ho; exact .inr ⟨h1, ho.symm⟩
    · cases ho
theorem pad_live {H0 : List (Ob K)} {n h : Nat} {o : Ob K} {r : Value} (hl : ρ.length = H0.length) (ho : (padH H0 n)[h]? = some o) (hlv : o.live = true) (hr : (padR ρ n)[h]? = some r) : H0[h]? = some o ∧ ρ[h]? = some r := by
  rcases padH_get ho with h1 | ⟨-, rfl⟩
  · have : h < ρ.length := by rw [hl]; exact (List.getElem?_eq_some_iff.1 h1).1
    unfold padR at hr; rw [List.getElem?_append_left this] at hr
    exact ⟨h1, hr⟩
  · cases hlv

theorem HeapSat.pad {H0 : List (Ob K)} (hs : HeapSat D ρ S w H0) {n : Nat} (hn : H0.length ≤ n) : HeapSat D (padR ρ n) S w (padH H0 n) := by
  have own : ∀ b, Own (padR ρ n) (padH H0 n) b → Own ρ H0 b := fun b ⟨h, o, r, h1, h2, h3, h4⟩ => by
    obtain ⟨g1, g2⟩ := pad_live hs.len h1 h2 h3
    exact ⟨h, o, r, g1, h2, g2, h4⟩
  refine ⟨by rw [padH_len hn]; simp [padR]; have := hs.len; omega, fun h o r h1 h2 => ?_, fun h h' o o' r r' b h1 h2 h3 h4 h5 h6 h7 h8 => ?_, fun b hb => hs.lt b (own b hb), hs.slt, hs.base⟩
  · rcases padH_get h1 with h3 | ⟨-, rfl⟩
    · have : h < ρ.length := by rw [hs.len]; exact (List.getElem?_eq_some_iff.1 h3).1
      have h4 : ρ[h]? = some r := by unfold padR at h2; rwa [List.getElem?_append_left this] at h2
      refine (hs.ob h o r h3 h4).mono' (fun _ h => h) (fun _ _ => rfl) (fun h' r' hr' _ => padR_get hr') fun _ _ _ => rfl
    · trivial
  · obtain ⟨g1, g2⟩ := pad_live hs.len h1 h2 h3
    obtain ⟨k1, k2⟩ := pad_live hs.len h5 h6 h7
    exact hs.dist h h' o o' r r' b g1 h2 g2 h4 k1 h6 k2 h8

theorem Step.pad {H0 : List (Ob K)} (hs : HeapSat D ρ S w H0) {n n0 : Nat} (hn : n0 ≤ H0.length) : Step n0 ρ S H0 w (padR ρ n) S (padH H0 n) w :=
  ⟨rfl, rfl, rfl, Nat.le_refl _, fun _ _ _ => rfl, fun b ⟨h, o, r, h1, h2, h3, h4⟩ => by
    obtain ⟨g1, g2⟩ := pad_live hs.len h1 h2 h3
    exact .inl ⟨h, o, r, g1, h2, g2, h4⟩, fun _ h => h, fun _ h => .inl h, fun h hh => by
    have : h < ρ.length := by rw [hs.len]; omega
    unfold padR; rw [List.getElem?_append_left this]⟩

section
variable {cx : Cx K} {L : List Oper} {bs : List Nat} {H0 : List (Ob K)} {tm0 tmF : List (AV K)} {F : FreeData K} {HF : List (Ob K)} {wr : List Nat} {ms : List (Nat × Nat)} {ws : List Nat} {listed : Array Bool} {a : Act}

theorem FreePre.len0 (hp : FreePre cx L bs H0 tm0 F L.length tmF HF wr ms ws) : H0.length ≤ HF.length := by
  have := hp.mono (Nat.zero_le L.length) (Nat.le_refl _); rw [hp.h0, hp.hn] at this; exact this

/-- all being done: the objects -/
theorem FMid.final (hp : FreePre cx L bs H0 tm0 F L.length tmF HF wr ms ws) (hm : FMid cx L bs tm0 F H0 HF H ρ S listed a w) (hall : ∀ i, i < L.length → listed[i]? = some true) : H = HF := by
  have hlt : ∀ k, listed[k]? = some true → k < L.length := fun k hk => by have := (Array.getElem?_eq_some_iff.1 hk).1; rw [hm.lsize] at this; exact this
  apply List.ext_getElem?
  intro h
  rcases Nat.lt_or_ge h HF.length with hh | hh
  · have hhF : h < (F.hin L.length).length := by rw [hp.hn]; exact hh
    by_cases hex : ∃ k, listed[k]? = some true ∧ F.W k h
    · obtain ⟨k, ⟨hk1, hk2⟩, hk3⟩ := max_of (p := fun k => listed[k]? = some true ∧ F.W k h) (n := L.length) (fun k hk => hlt k hk.1) hex
      rw [hm.obk h k hk1 hk2 fun k' a b => hk3 k' ⟨a, b⟩]
      have hkL := hlt k hk1
      have hno : ∀ k', k + 1 ≤ k' → k' < L.length → ¬ F.W k' h := fun k' h1 h2 hw => by have := hk3 k' ⟨hall k' h2, hw⟩; omega
      by_cases hl : h < (F.hin (k + 1)).length
      · rw [← hp.stay (show k + 1 ≤ L.length by omega) (Nat.le_refl _) hno hl, hp.hn]
      · exfalso
        have : H0.length ≤ h := by have := hp.mono (show 0 ≤ k + 1 by omega) (show k + 1 ≤ L.length by omega); rw [hp.h0] at this; omega
        obtain ⟨k', g1, g2, g3⟩ := hp.made (Nat.le_refl _) hhF this
        by_cases hkk : k + 1 ≤ k'
        · exact hno k' hkk g1 (.inr ⟨g2, g3⟩)
        · have := hp.mono (show k' + 1 ≤ k + 1 by omega) (show k + 1 ≤ L.length by omega)
          rw [hp.lenS g1] at this; omega
    · have hno : ∀ k, listed[k]? = some true → ¬ F.W k h := fun k a b => hex ⟨k, a, b⟩
      have hnj : ∀ k, 0 ≤ k → k < L.length → ¬ F.W k h := fun k _ hk hw => hno k (hall k hk) hw
      obtain ⟨g1, g2⟩ := hm.ob0 h hno hh
      by_cases h0 : h < H0.length
      · rw [g1 h0, ← hp.hn, hp.stay (Nat.zero_le _) (Nat.le_refl _) hnj (by rw [hp.h0]; exact h0), hp.h0]
      · obtain ⟨k', a1, a2, a3⟩ := hp.made (Nat.le_refl _) hhF (by omega)
        exact absurd (.inr ⟨a2, a3⟩) (hnj k' (Nat.zero_le _) a1)
  · rw [List.getElem?_eq_none (by rw [hm.hlen]; exact hh), List.getElem?_eq_none hh]

theorem free_any (hD : CodOk cx.D) (hc : CallOk cx) (he : edgesOk L 0 = true) (hp : FreePre cx L (befores L []) H0 tm0 F L.length tmF HF wr ms ws) {n0 : Nat} (hn : n0 ≤ H0.length) {Q : Exit → Act → World → Prop} :
    ∀ (fuel : Nat) (listed : Array Bool) (H : List (Ob K)) (ρ : List Value) (S : Nat → Prop) (a : Act) (w : World), FMid cx L (befores L []) tm0 F H0 HF H ρ S listed a w → todo listed ≤ fuel →
    (∀ ρ' S' a' w', HeapSat cx.D ρ' S' w' HF → Slots cx.D ρ' S' w' tmF a'.tmps → a'.defers = [] → Step n0 ρ S H w ρ' S' HF w' → Q .normal a' w') → wpAny cx.P .any L.toArray Q fuel listed a w := by
  have hfin : ∀ (listed : Array Bool) (H : List (Ob K)) (ρ : List Value) (S : Nat → Prop) (a : Act) (w : World), FMid cx L (befores L []) tm0 F H0 HF H ρ S listed a w → Region.ready .any L.toArray listed = [] → H = HF ∧ Slots cx.D ρ S w tmF a.tmps := fun listed H ρ S a w hm hr => by
    have hall := all_listed he hm.lsize hr
    refine ⟨hm.final hp hall, by rw [hp.len, hm.size], fun t v x hv hx => ?_⟩
    rcases dst_of L t with hnd | ⟨k, o, hk, hkd⟩
    · rw [hp.rest t fun k o _ h => hnd k o h] at hv
      exact .of_rep (hm.base t v x (fun k o hk hkd => absurd hkd (hnd k o hk)) hv hx)
    · have hkL := (List.getElem?_eq_some_iff.1 hk).1
      rw [hp.fin k o t hkL hk hkd] at hv
      simp only [Option.some.injEq] at hv; subst hv
      exact hm.done k o t x hk (hall k hkL) hkd hx
  intro fuel
  induction fuel with
  | zero =>
    intro listed H ρ S a w hm ht hq
    have hr : Region.ready .any L.toArray listed = [] := by
      cases hh : Region.ready .any L.toArray listed with
      | nil => rfl
      | cons j r =>
        have : j ∈ Region.ready .any L.toArray listed := by rw [hh]; simp
        exact absurd (listed_getD.1 (mem_ready.1 this).1) (todo_zero (by omega))
    obtain ⟨e, hs⟩ := hfin listed H ρ S a w hm hr
    subst e
    exact ⟨hr, hq ρ S a w hm.heap hs hm.defers Step.refl⟩
  | succ fuel ih =>
    intro listed H ρ S a w hm ht hq
    refine ⟨fun hr => by
      obtain ⟨e, hs⟩ := hfin listed H ρ S a w hm hr
      subst e
      exact hq ρ S a w hm.heap hs hm.defers Step.refl, fun j hj => ?_⟩
    obtain ⟨hju, o, hoj, hall⟩ := mem_ready.1 hj
    have hjf := listed_getD.1 hju
    have ho : L[j]? = some o := by simpa using hoj
    have hjL := (List.getElem?_eq_some_iff.1 ho).1
    have hready : ∀ e ∈ o.after, listed[e.on]? = some true := fun e hee => listed_getD'.1 (hall e hee (edgesOk_get L 0 j o he ho e hee).2)
    have hA : ∀ k, ((befores L []).getD j 0).testBit k = true → listed[k]? = some true := fun k hk =>
      (befores_closed he (T := fun i => listed[i]? = some true) (fun i o hi hli => hm.closed i o hi hli) j o ho hready k hk).1
    have hcl : ∀ i k, listed[i]? = some true → ((befores L []).getD i 0).testBit k = true → listed[k]? = some true := fun i k hi hk => by
      have hiL : i < L.length := by have := (Array.getElem?_eq_some_iff.1 hi).1; rw [hm.lsize] at this; exact this
      exact (befores_closed he (T := fun i => listed[i]? = some true) (fun i o hi hli => hm.closed i o hi hli) i _ (List.getElem?_eq_getElem hiL) (hm.closed i _ (List.getElem?_eq_getElem hiL) hi) k hk).1
    obtain ⟨tmi, wri, fs⟩ := hp.slot j o hjL ho
    obtain ⟨hsl, hkn⟩ := hm.slots hD rfl he hp ho hjf hready fs
    have view := hm.view hp hjL hjf hA hcl fs
    have hsv := hm.heap.view hD view
    have main : ∀ q, slotV q cx L (maskTm (seeB (befores L []) j) L 0 tmi) (maskH (F.mask j) 0 (F.hin j)) wri o = some (F.vals j, F.hout j, true) → wpOp cx.P L.toArray Q j (wpAny cx.P .any L.toArray Q fuel (listed.setIfInBounds j true)) a w := fun q s1 => by
      have hopt : ∀ g b y, F.vals j = .opt g b y → ∃ (k' : Nat) (o' : Oper), L[k']? = some o' ∧ o'.dst = some g ∧ listed[k']? = some true := fun g b y e => by
        rw [e] at s1
        obtain ⟨v, g1, g2⟩ := slotV_guard s1
        rcases hkn g v g1 g2 with hn' | h
        · obtain ⟨k, o', hk, h2, h3⟩ := fs.wri g (slotV_opt s1 g b y rfl)
          exact absurd h3 (hn' k o' hk h2)
        · exact h
      have hw := slot_wp hD hc hsv hsl (ops := L) s1 rfl (k := wpAny cx.P .any L.toArray Q fuel (listed.setIfInBounds j true)) (Q := Q) fun u ρ1 S1 w1 q1 q2 q3 => by
        rw [maskH_length] at q3
        obtain ⟨hm1, st1⟩ := hm.put hD hp ho hjf hready hA hcl fs q1 q3 q2 hopt hn
        exact ih _ _ _ S1 _ w1 hm1 (by have := todo_set hjf; omega) fun ρ' S' a' w' g1 g2 g3 g4 => hq ρ' S' a' w' g1 g2 g3 (st1.trans g4)
      unfold wpOp
      rw [hoj]
      dsimp only
      split
      · rename_i hwt; rw [if_pos hwt] at hw; exact .inl hw
      · rename_i hwt; rw [if_neg hwt] at hw; exact hw
    have s1 := fs.slot
    unfold slotF at s1
    split at s1
    · exact main true s1
    · split at s1
      · exact main false s1
      · cases s1

/-- at the start -/
theorem FMid.start (hp : FreePre cx L bs H0 tm0 F L.length tmF HF wr ms ws) (hs : HeapSat cx.D ρ S w H0) (hd : a.defers = []) (hsl : Slots cx.D ρ S w tm0 a.tmps) (h0 : NoOpt tm0) :
    FMid cx L bs tm0 F H0 HF (padH H0 HF.length) (padR ρ HF.length) S (Array.replicate L.length false) a w := by
  have hf : ∀ (k : Nat), (Array.replicate L.length false)[k]? ≠ some true := fun k e => by
    rw [Array.getElem?_replicate] at e; split at e <;> simp at e
  have hl := hp.len0
  refine ⟨hs.pad hl, padH_len hl, hd, hsl.len.symm, by simp, fun t v x hn1 h1 h2 => ?_, fun k o d x h1 h2 => absurd h2 (hf k), fun k g b y h1 => absurd h1 (hf k), fun k o h1 h2 => absurd h2 (hf k), fun h _ hh => ⟨fun h1 => ?_, fun h1 => ?_⟩, fun h k hk => absurd hk (hf k), fun h h1 h2 _ => ?_⟩
  · have h3 := hsl.ok t v x h1 h2
    have h4 : Rep cx.D ρ S w v x := by
      cases v with
      | opt g b y => exact absurd h1 (h0 t g b y)
      | _ => exact h3
    exact h4.mono' (fun _ h => h) (fun _ _ => rfl) fun h r hr _ => padR_get hr
  · unfold padH; rw [List.getElem?_append_left h1]
  · unfold padH; rw [List.getElem?_append_right h1, List.getElem?_replicate, if_pos (by omega)]
  · unfold padR; rw [List.getElem?_append_right (by rw [hs.len]; exact h1), List.getElem?_replicate, if_pos (by rw [hs.len]; omega)]
end
end Go.V
