/-
  SUCH A REGION IN WHATEVER ORDER: one operation more is done.
-/
import Derived.Test.YtbkcpcfcccahnaaGreatDoorXVfree5
set_option linter.unusedVariables false
namespace Go.V
open Go
variable {K : Uni} {ρ ρ' : List Value} {S S' : Nat → Prop} {w w' : World} {H H' : List (Ob K)} {D : Cod K}
section
variable {cx : Cx K} {L : List Oper} {bs : List Nat} {H0 : List (Ob K)} {tm0 tmF : List (AV K)} {F : FreeData K} {HF : List (Ob K)} {wr : List Nat} {ms : List (Nat × Nat)} {ws : List Nat} {listed : Array Bool} {a : Act}

theorem FMid.put (hD : CodOk cx.D) (hp : FreePre cx L bs H0 tm0 F L.length tmF HF wr ms ws) (hm : FMid cx L bs tm0 F H0 HF H ρ S listed a w) {j : Nat} {o : Oper} (ho : L[j]? = some o) (hjf : listed[j]? = some false) (hready : ∀ e ∈ o.after, listed[e.on]? = some true)
    (hA : ∀ k, (bs.getD j 0).testBit k = true → listed[k]? = some true) (hcl : ∀ i k, listed[i]? = some true → (bs.getD i 0).testBit k = true → listed[k]? = some true) {tmi : List (AV K)} {wri : List Nat} (fs : FreeSlot cx L bs tm0 F j o tmi wri)
    {ρ1 : List Value} {S1 : Nat → Prop} {w1 : World} {u : Value} (hs1 : HeapSat cx.D ρ1 S1 w1 (F.hout j)) (hst : Step (F.hin j).length (ρ.take (F.hin j).length) S (maskH (F.mask j) 0 (F.hin j)) w ρ1 S1 (F.hout j) w1) (hv : SlotOk cx.D ρ1 S1 w1 a.tmps (F.vals j) u)
    (hopt : ∀ g b y, F.vals j = .opt g b y → ∃ (k' : Nat) (o' : Oper), L[k']? = some o' ∧ o'.dst = some g ∧ listed[k']? = some true) {n0 : Nat} (hn0 : n0 ≤ H0.length) :
    FMid cx L bs tm0 F H0 HF (after F j H) (ρ1 ++ ρ.drop (F.hout j).length) S1 (listed.setIfInBounds j true) (a.put o.dst u) w1 ∧ Step n0 ρ S H w (ρ1 ++ ρ.drop (F.hout j).length) S1 (after F j H) w1 := by
  have hj : j < L.length := (List.getElem?_eq_some_iff.1 ho).1
  have hjs : j < listed.size := (Array.getElem?_eq_some_iff.1 hjf).1
  have hnm := (hp.hs j hj).2
  have hmN : (F.hout j).length ≤ H.length := by
    have := hp.mono (show j + 1 ≤ L.length by omega) (Nat.le_refl _)
    rw [hp.lenS hj, hp.hn] at this; rw [hm.hlen]; exact this
  have h0n : H0.length ≤ (F.hin j).length := by have := hp.mono (Nat.zero_le j) (by omega); rw [hp.h0] at this; exact this
  have hlt : ∀ k, listed[k]? = some true → k < L.length := fun k hk => by have := (Array.getElem?_eq_some_iff.1 hk).1; rw [hm.lsize] at this; exact this
  have hne : ∀ k, listed[k]? = some true → k ≠ j := fun k hk e => by subst e; rw [hjf] at hk; cases hk
  have view := hm.view hp hj hjf hA hcl fs
  have hd : ∀ h, (F.hin j).length ≤ h → h < (F.hout j).length → ρ[h]? = some dummy := fun h h1 h2 =>
    hm.dum h (by omega) (by rw [← hm.hlen]; omega) fun k hk ⟨h3, h4⟩ => hne k hk (hp.maker hj (hlt k hk) h1 h2 h3 h4).symm
  have ag := after_get (F := F) (H := H) hnm hmN
  have joined : Joined (F.hin j).length (F.hout j).length H (maskH (F.mask j) 0 (F.hin j)) (F.hout j) (after F j H) := ⟨hnm, rfl, after_length hnm hmN, hmN, fun h o1 h1 => by
    rw [ag] at h1
    by_cases hh : h < (F.hout j).length
    · rw [if_pos hh] at h1
      by_cases hc : h < (F.hin j).length ∧ (F.mask j).testBit h = true
      · rw [if_pos hc] at h1
        refine .inr ⟨h1, .inl ⟨hc.1, ?_⟩⟩
        rw [maskH_get, Nat.zero_add, hc.2, List.getElem?_eq_getElem hc.1]; rfl
      · rw [if_neg hc] at h1; exact .inl ⟨hh, h1⟩
    · rw [if_neg hh] at h1; exact .inr ⟨h1, .inr (by omega)⟩⟩
  obtain ⟨hsF, stF, hmono⟩ := hm.heap.join (n0 := n0) view hs1 hst joined hd (by omega)
  have hl1 : ρ1.length = (F.hout j).length := hs1.len
  have hρ := join_rho (n := 0) (ρ := ρ) (ρ1 := ρ1) hl1 (by rw [hm.heap.len]; exact hmN)
  have hread : ∀ b, S b → w1.heap[b]? = w.heap[b]? := fun b hb => hst.old b (hm.heap.slt b hb) fun h => (hm.heap.lt b (view.own h)).2 hb
  have hrep : ∀ {v : AV K} {x : Value}, Rep cx.D ρ S w v x → Rep cx.D (ρ1 ++ ρ.drop (F.hout j).length) S1 w1 v x := fun h => h.mono' hst.s1 hread hmono
  have hslot : ∀ {v : AV K} {x : Value} {tmps : Array Value}, SlotOk cx.D ρ S w tmps v x → SlotOk cx.D (ρ1 ++ ρ.drop (F.hout j).length) S1 w1 tmps v x := fun h => h.mono' hst.s1 hread hmono
  have hvF : SlotOk cx.D (ρ1 ++ ρ.drop (F.hout j).length) S1 w1 a.tmps (F.vals j) u := hv.mono' (fun _ h => h) (fun _ _ => rfl) fun h r hr _ => by
    have : h < (F.hout j).length := by have := (List.getElem?_eq_some_iff.1 hr).1; omega
    rw [hρ, if_pos this]; exact hr
  have hget : ∀ (k : Nat), (listed.setIfInBounds j true)[k]? = some true ↔ (k = j ∨ listed[k]? = some true) := fun k => by
    rw [Array.getElem?_setIfInBounds]
    by_cases hk : j = k
    · subst hk; simp [hjs]
    · rw [if_neg hk]; simp [Ne.symm hk]
  have hclosed : ∀ (k : Nat) o1, L[k]? = some o1 → (listed.setIfInBounds j true)[k]? = some true → ∀ e ∈ o1.after, (listed.setIfInBounds j true)[e.on]? = some true := fun k o1 hk hlk e he => by
    rw [hget] at hlk ⊢
    rcases hlk with rfl | hlk
    · rw [ho] at hk; simp at hk; subst hk; exact .inr (hready e he)
    · exact .inr (hm.closed k o1 hk hlk e he)
  have hopts : ∀ (k g : Nat) b y, (listed.setIfInBounds j true)[k]? = some true → F.vals k = .opt g b y → ∃ (k' : Nat) (o' : Oper), L[k']? = some o' ∧ o'.dst = some g ∧ (listed.setIfInBounds j true)[k']? = some true := fun k g b y hlk hvk => by
    rw [hget] at hlk
    rcases hlk with rfl | hlk
    · obtain ⟨k', o', h1, h2, h3⟩ := hopt g b y hvk
      exact ⟨k', o', h1, h2, (hget k').2 (.inr h3)⟩
    · obtain ⟨k', o', h1, h2, h3⟩ := hm.opts k g b y hlk hvk
      exact ⟨k', o', h1, h2, (hget k').2 (.inr h3)⟩
  -- objects
  have hsame : ∀ h, ¬ F.W j h → (after F j H)[h]? = H[h]? := fun h hn => by
    rw [ag]
    by_cases hh : h < (F.hout j).length
    · rw [if_pos hh]
      by_cases hc : h < (F.hin j).length ∧ (F.mask j).testBit h = true
      · rw [if_pos hc]
      · rw [if_neg hc]
        have hln : h < (F.hin j).length := by
          rcases Nat.lt_or_ge h (F.hin j).length with h1 | h1
          · exact h1
          · exact absurd (.inr ⟨h1, hh⟩) hn
        have hun : (F.mask j).testBit h = false := by
          cases hb : (F.mask j).testBit h with
          | false => rfl
          | true => exact absurd ⟨hln, hb⟩ hc
        rw [fs.turns.2 h (by rw [maskH_length]; exact hln) (fun hT => hn (.inl hT)), maskH_get, Nat.zero_add, hun, hm.sees hp hj hjf hA hcl hln hun]
        cases (F.hin j)[h]? <;> simp
    · rw [if_neg hh]
  have hnew : ∀ h, F.W j h → (after F j H)[h]? = (F.hin (j + 1))[h]? := fun h hw => by
    have hc : ¬ (h < (F.hin j).length ∧ (F.mask j).testBit h = true) := fun ⟨h1, h2⟩ => by
      rcases hw with hT | hT
      · have := (hp.clear j hj h hT).1; rw [h2] at this; cases this
      · omega
    have hh : h < (F.hout j).length := by
      rcases hw with hT | hT
      · have := (hp.clear j hj h hT).2; omega
      · exact hT.2
    rw [ag, if_pos hh, if_neg hc, (hp.hs j hj).1, mixH_get _ _ _ _ hnm, Nat.zero_add, if_neg hc]
  have c0 : ∀ h, (∀ k, (listed.setIfInBounds j true)[k]? = some true → ¬ F.W k h) → h < HF.length → (h < H0.length → (after F j H)[h]? = H0[h]?) ∧ (H0.length ≤ h → (after F j H)[h]? = some .dead) := fun h hno hh => by
    rw [hsame h (hno j ((hget j).2 (.inl rfl)))]
    exact hm.ob0 h (fun k hk => hno k ((hget k).2 (.inr hk))) hh
  have ck : ∀ h k, (listed.setIfInBounds j true)[k]? = some true → F.W k h → (∀ k', (listed.setIfInBounds j true)[k']? = some true → F.W k' h → k' ≤ k) → (after F j H)[h]? = (F.hin (k + 1))[h]? := fun h k hk hw hmax => by
    by_cases hkj : k = j
    · subst hkj; exact hnew h hw
    · have hk' : listed[k]? = some true := ((hget k).1 hk).resolve_left hkj
      have hnj : ¬ F.W j h := fun hwj => by
        have hjk : j < k := by have := hmax j ((hget j).2 (.inl rfl)) hwj; omega
        have hkL := hlt k hk'
        have hlen := hp.mono (show j + 1 ≤ k by omega) (by omega)
        rw [hp.lenS hj] at hlen
        have hb : (bs.getD k 0).testBit j = false := by
          cases hb : (bs.getD k 0).testBit j with
          | false => rfl
          | true => have := hcl k j hk' hb; rw [hjf] at this; cases this
        have hmk := hp.masks k hkL h ⟨j, hjk, hb, hwj⟩
        rcases hw with hT | hT
        · have := (hp.clear k hkL h hT).1; rw [hmk] at this; cases this
        · have : h < (F.hout j).length := by
            rcases hwj with h1 | h1
            · have := (hp.clear j hj h h1).2; omega
            · exact h1.2
          omega
      rw [hsame h hnj]
      exact hm.obk h k hk' hw fun k' a b => hmax k' ((hget k').2 (.inr a)) b
  have cd : ∀ h, H0.length ≤ h → h < HF.length → (∀ k, (listed.setIfInBounds j true)[k]? = some true → ¬ ((F.hin k).length ≤ h ∧ h < (F.hout k).length)) → (ρ1 ++ ρ.drop (F.hout j).length)[h]? = some dummy := fun h h1 h2 hno => by
    have h3 := hm.dum h h1 h2 fun k hk => hno k ((hget k).2 (.inr hk))
    have h4 := hno j ((hget j).2 (.inl rfl))
    rw [hρ]
    by_cases hh : h < (F.hout j).length
    · have hl : h < (F.hin j).length := by
        rcases Nat.lt_or_ge h (F.hin j).length with h5 | h5
        · exact h5
        · exact absurd ⟨h5, hh⟩ h4
      rw [if_pos hh, hst.pre h hl, List.getElem?_take, if_pos hl]; exact h3
    · rw [if_neg hh]; exact h3
  have hlen2 : (after F j H).length = HF.length := by rw [after_length hnm hmN, hm.hlen]
  refine ⟨?_, stF⟩
  cases hdst : o.dst with
  | none =>
    refine ⟨hsF, hlen2, hm.defers, hm.size, by simp [hm.lsize], fun t v x h1 h2 h3 => hrep (hm.base t v x (fun k o1 hk hd1 hl => h1 k o1 hk hd1 ((hget k).2 (.inr hl))) h2 h3), fun k o1 d x hk hlk hd1 hx => ?_, hopts, hclosed, c0, ck, cd⟩
    rw [hget] at hlk
    rcases hlk with rfl | hlk
    · rw [ho] at hk; simp at hk; subst hk; rw [hdst] at hd1; cases hd1
    · exact hslot (hm.done k o1 d x hk hlk hd1 hx)
  | some d =>
    have hned : ∀ {k : Nat} {o1 : Oper}, L[k]? = some o1 → listed[k]? = some true → o1.dst ≠ some d := fun {k o1} hk hlk hd1 => by
      have := hp.uniq k j o1 o d (hlt k hlk) hj hk ho hd1 hdst
      exact hne k hlk this
    refine ⟨hsF, hlen2, hm.defers, by simp [Act.put, hm.size], by simp [hm.lsize], fun t v x h1 h2 h3 => ?_, fun k o1 d1 x hk hlk hd1 hx => ?_, hopts, hclosed, c0, ck, cd⟩
    · have : d ≠ t := fun e => by subst e; exact h1 j o ho hdst ((hget j).2 (.inl rfl))
      simp only [Act.put, Array.getElem?_setIfInBounds, if_neg this] at h3
      exact hrep (hm.base t v x (fun k o1 hk hd1 hl => h1 k o1 hk hd1 ((hget k).2 (.inr hl))) h2 h3)
    · rw [hget] at hlk
      simp only [Act.put] at hx ⊢
      rw [Array.getElem?_setIfInBounds] at hx
      rcases hlk with rfl | hlk
      · rw [ho] at hk; simp at hk; subst hk
        rw [hdst] at hd1; simp at hd1; subst hd1
        rw [if_pos rfl] at hx
        split at hx
        · simp at hx; subst hx
          refine hvF.put fun g b y e he => ?_
          obtain ⟨k', o', h1, h2, h3⟩ := hopt g b y e
          subst he; exact hned h1 h3 h2
        · cases hx
      · have hdd : d ≠ d1 := fun e => by subst e; exact hned hk hlk hd1
        rw [if_neg hdd] at hx
        refine (hslot (hm.done k o1 d1 x hk hlk hd1 hx)).put fun g b y e he => ?_
        obtain ⟨k', o', h1, h2, h3⟩ := hm.opts k g b y hlk e
        subst he; exact hned h1 h3 h2
end
end Go.V
