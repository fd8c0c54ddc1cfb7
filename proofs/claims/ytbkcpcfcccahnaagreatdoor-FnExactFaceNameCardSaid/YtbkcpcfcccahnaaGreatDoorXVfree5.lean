/-
  SUCH A REGION IN WHATEVER ORDER: one operation more.
-/
import Derived.Test.YtbkcpcfcccahnaaGreatDoorXVfreeA
set_option linter.unusedVariables false
namespace Go.V
open Go
variable {K : Uni} {ρ ρ' : List Value} {S S' : Nat → Prop} {w w' : World} {H H' : List (Ob K)} {D : Cod K}

theorem SlotOk.take (hD : CodOk D) {n : Nat} {tmps : Array Value} {v : AV K} {x : Value} (h : SlotOk D ρ S w tmps v x) (hu : v.upto n = true) : SlotOk D (ρ.take n) S w tmps v x := by
  cases v with
  | opt g b v =>
    simp only [SlotOk] at h ⊢
    rcases h with ⟨h1, h2⟩ | h
    · exact .inl ⟨h1, h2.take hD (by simpa [AV.upto] using hu)⟩
    · exact .inr h
  | _ => exact Rep.take hD h hu
theorem SlotOk.mono' {tmps : Array Value} (hS : ∀ b, S b → S' b) (hw : ∀ b, S b → w'.heap[b]? = w.heap[b]?) (hρ : ∀ (h : Nat) r, ρ[h]? = some r → r ≠ dummy → ρ'[h]? = some r) {v : AV K} {x : Value} (h : SlotOk D ρ S w tmps v x) : SlotOk D ρ' S' w' tmps v x := by
  cases v with
  | opt g b v =>
    simp only [SlotOk] at h ⊢
    rcases h with ⟨h1, h2⟩ | h
    · exact .inl ⟨h1, h2.mono' hS hw hρ⟩
    · exact .inr h
  | _ => exact Rep.mono' hS hw hρ h

section
variable {cx : Cx K} {L : List Oper} {bs : List Nat} {H0 : List (Ob K)} {tm0 tmF : List (AV K)} {F : FreeData K} {HF : List (Ob K)} {wr : List Nat} {ms : List (Nat × Nat)} {ws : List Nat} {listed : Array Bool} {a : Act}

theorem FMid.slots (hD : CodOk cx.D) (hbs : bs = befores L []) (he : edgesOk L 0 = true) (hp : FreePre cx L bs H0 tm0 F L.length tmF HF wr ms ws) (hm : FMid cx L bs tm0 F H0 HF H ρ S listed a w) {j : Nat} {o : Oper} (ho : L[j]? = some o) (hjf : listed[j]? = some false) (hready : ∀ e ∈ o.after, listed[e.on]? = some true) {tmi : List (AV K)} {wri : List Nat}
    (fs : FreeSlot cx L bs tm0 F j o tmi wri) : Slots cx.D (ρ.take (F.hin j).length) S w (maskTm (seeB bs j) L 0 tmi) a.tmps ∧
      ∀ (t : Nat) v, (maskTm (seeB bs j) L 0 tmi)[t]? = some v → v ≠ .any → (∀ (k : Nat) o', k < j → L[k]? = some o' → o'.dst ≠ some t) ∨ ∃ (k : Nat) (o' : Oper), L[k]? = some o' ∧ o'.dst = some t ∧ listed[k]? = some true := by
  have key : ∀ (t : Nat) v, (maskTm (seeB bs j) L 0 tmi)[t]? = some v → v ≠ .any → (((∀ (k : Nat) o', k < j → L[k]? = some o' → o'.dst ≠ some t) ∧ (∀ (k : Nat) o, L[k]? = some o → o.dst = some t → listed[k]? ≠ some true)) ∧ tm0[t]? = some v) ∨ ∃ (k : Nat) (o' : Oper), L[k]? = some o' ∧ o'.dst = some t ∧ listed[k]? = some true ∧ v = F.vals k := fun t v hv hne => by
    obtain ⟨g1, g2⟩ := maskTm_get L 0 tmi t v hv hne
    rcases dst_of L t with hn | ⟨k, o', hk, hkd⟩
    · exact .inl ⟨⟨fun k o' _ h => hn k o' h, fun k o' h h' => absurd h' (hn k o' h)⟩, by rw [← fs.rest t fun k o' _ h => hn k o' h]; exact g1⟩
    · have hb := g2 k o' hk hkd
      rw [Nat.zero_add, hbs] at hb
      rcases seeB_get hb with hb | hb
      · obtain ⟨c1, c2⟩ := befores_closed he (T := fun i => listed[i]? = some true) (fun i o hi hli => hm.closed i o hi hli) j o ho hready k hb
        have := fs.fin k o' t hk hkd c2
        rw [g1] at this
        exact .inr ⟨k, o', hk, hkd, c1, by simpa using this⟩
      · have c0 := (befores_closed he (T := fun _ => True) (fun _ _ _ _ _ _ => trivial) k o' hk (fun _ _ => trivial) j hb).2
        have hun : listed[k]? ≠ some true := fun hlk => by
          have := (befores_closed he (T := fun i => listed[i]? = some true) (fun i o hi hli => hm.closed i o hi hli) k o' hk (hm.closed k o' hk hlk) j hb).1
          rw [hjf] at this; cases this
        have huq : ∀ (k' : Nat) o1, L[k']? = some o1 → o1.dst = some t → k' = k := fun k' o1 h1 h2 => hp.uniq k' k o1 o' t (List.getElem?_eq_some_iff.1 h1).1 (List.getElem?_eq_some_iff.1 hk).1 h1 hk h2 hkd
        have hlt : ∀ (k' : Nat) o1, k' < j → L[k']? = some o1 → o1.dst ≠ some t := fun k' o1 hk' h1 h2 => by have := huq k' o1 h1 h2; omega
        exact .inl ⟨⟨hlt, fun k' o1 h1 h2 => by rw [huq k' o1 h1 h2]; exact hun⟩, by rw [← fs.rest t hlt]; exact g1⟩
  refine ⟨⟨by rw [maskTm_length, fs.len, hm.size], fun t v x hv hx => ?_⟩, fun t v hv hne => ?_⟩
  · by_cases hne : v = .any
    · subst hne; exact .of_rep (.any x)
    · have hu := uptos_get fs.up hv
      rcases key t v hv hne with ⟨⟨-, hn⟩, g⟩ | ⟨k, o', hk, hkd, hlk, rfl⟩
      · exact (SlotOk.of_rep (hm.base t v x hn g hx)).take hD hu
      · exact (hm.done k o' t x hk hlk hkd hx).take hD hu
  · rcases key t v hv hne with ⟨⟨hn, -⟩, -⟩ | ⟨k, o', hk, hkd, hlk, -⟩
    · exact .inl hn
    · exact .inr ⟨k, o', hk, hkd, hlk⟩

/-- the part of the objects that operation j sees -/
theorem FMid.view (hp : FreePre cx L bs H0 tm0 F L.length tmF HF wr ms ws) (hm : FMid cx L bs tm0 F H0 HF H ρ S listed a w) {j : Nat} {o : Oper} (hj : j < L.length) (hjf : listed[j]? = some false)
    (hA : ∀ k, (bs.getD j 0).testBit k = true → listed[k]? = some true) (hcl : ∀ i k, listed[i]? = some true → (bs.getD i 0).testBit k = true → listed[k]? = some true) {tmi : List (AV K)} {wri : List Nat} (fs : FreeSlot cx L bs tm0 F j o tmi wri) :
    View (F.hin j).length H (maskH (F.mask j) 0 (F.hin j)) where
  len := maskH_length _ _
  le := by rw [hm.hlen]; have := hp.mono (show j ≤ L.length by omega) (Nat.le_refl _); rw [hp.hn] at this; exact this
  ob := fun h o ho => by
    rw [maskH_get, Nat.zero_add] at ho
    cases hb : (F.mask j).testBit h with
    | true =>
      rw [hb] at ho
      cases hx : (F.hin j)[h]? with
      | none => rw [hx] at ho; cases ho
      | some y => rw [hx] at ho; simp at ho; exact .inl ho.symm
    | false =>
      rw [hb] at ho
      cases hx : (F.hin j)[h]? with
      | none => rw [hx] at ho; cases ho
      | some y =>
        rw [hx] at ho; simp at ho; subst ho
        exact .inr (by rw [hm.sees hp hj hjf hA hcl (List.getElem?_eq_some_iff.1 hx).1 hb]; exact hx)
  up := fun h o ho => by
    have := fs.upH
    rw [List.all_eq_true] at this
    exact this o (List.mem_of_getElem? ho)

/-- the objects behind the operation -/
def after (F : FreeData K) (j : Nat) (H : List (Ob K)) : List (Ob K) := mixH (F.mask j) 0 (H.take (F.hin j).length) (F.hout j) ++ H.drop (F.hout j).length

theorem after_get {j : Nat} (h1 : (F.hin j).length ≤ (F.hout j).length) (h2 : (F.hout j).length ≤ H.length) (h : Nat) :
    (after F j H)[h]? = if h < (F.hout j).length then (if h < (F.hin j).length ∧ (F.mask j).testBit h = true then H[h]? else (F.hout j)[h]?) else H[h]? := by
  have hl : (H.take (F.hin j).length).length = (F.hin j).length := by rw [List.length_take]; omega
  have hml : (mixH (F.mask j) 0 (H.take (F.hin j).length) (F.hout j)).length = (F.hout j).length := mixH_length _ _ _ (by omega)
  unfold after
  by_cases hh : h < (F.hout j).length
  · rw [List.getElem?_append_left (by omega), if_pos hh, mixH_get _ _ _ _ (by omega), hl, Nat.zero_add]
    by_cases hc : h < (F.hin j).length ∧ (F.mask j).testBit h = true
    · rw [if_pos hc, if_pos hc, List.getElem?_take, if_pos hc.1]
    · rw [if_neg hc, if_neg hc]
  · rw [List.getElem?_append_right (by omega), if_neg hh, hml, List.getElem?_drop]
    congr 1; omega
theorem after_length {j : Nat} (h1 : (F.hin j).length ≤ (F.hout j).length) (h2 : (F.hout j).length ≤ H.length) : (after F j H).length = H.length := by
  have hl : (H.take (F.hin j).length).length = (F.hin j).length := by rw [List.length_take]; omega
  unfold after
  rw [List.length_append, mixH_length _ _ _ (by omega), List.length_drop]; omega
end
end Go.V
