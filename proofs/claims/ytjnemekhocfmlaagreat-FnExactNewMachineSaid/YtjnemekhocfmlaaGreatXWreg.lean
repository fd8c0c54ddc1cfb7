/-
  ONE OPERATION IN ITS FRAME; A REGION IN THE ORDER OF THE TEXT.
-/
import Derived.Test.YtjnemekhocfmlaaGreatXWdeepA
set_option linter.unusedVariables false
namespace Go.V
open Go
variable {K : Uni} {ρ ρ' : List Value} {S S' : Nat → Prop} {w w' : World} {H H' : List (Ob K)}

theorem wp_of_does {D : Cod K} {P : Program} {o : Oper} {a : Act} {v : AV K} (h : Does D P ρ S H w (execOp a.eval o) v H') {k : Act → World → Prop} {Q : Exit → Act → World → Prop}
    (hk : ∀ u ρ' S' w', HeapSat D ρ' S' w' H' → Rep D ρ' S' w' v u → Step D H.length ρ S H w ρ' S' H' w' → k (a.put o.dst u) w') : o.wp P a w k Q := by
  obtain ⟨n, u, w', ρ', h1, h2, h3, h4, h5⟩ := h
  unfold Oper.wp
  rw [h1]
  rcases h2 with rfl | ⟨rfl, rfl⟩
  · exact hk u ρ' S w' h3 h4 h5
  · exact hk _ ρ' S w' h3 h4 h5

theorem yield_wp {q : Bool} {cx : Cx K} (hD : CodOk cx.D) (hc : CallOk cx) (hs : HeapSat cx.D ρ S w H) {a : Act} {tm : List (AV K)} (hsl : Slots cx.D ρ S w tm a.tmps) {gs : List (Nat × Bool)} (hg : ∀ p ∈ gs, a.tmps[p.1]? = some (.bool p.2)) {o : Oper} {v : AV K} {c : Bool} {t : List Nat}
    (h : yieldV q cx tm gs H o.type o.op = some (v, H', c, t)) (hc1 : c = true) {k : Act → World → Prop} {Q : Exit → Act → World → Prop}
    (hk : ∀ u ρ' S' w', HeapSat cx.D ρ' S' w' H' → Rep cx.D ρ' S' w' v u → Step cx.D H.length ρ S H w ρ' S' H' w' → k (a.put o.dst u) w') : o.wp cx.P a w k Q := by
  have hev := evS_sound hsl hg
  unfold yieldV at h
  split at h
  · -- pick
    rename_i cnd x y hop
    have key : ∀ (b : Bool) (gx gy : List (Nat × Bool)), a.eval cnd = .bool b → (b = true → ∀ p ∈ gx, a.tmps[p.1]? = some (.bool p.2)) → (b = false → ∀ p ∈ gy, a.tmps[p.1]? = some (.bool p.2)) → v = merge b (evS tm gx x) (evS tm gy y) → H' = H → o.wp cx.P a w k Q := by
      intro b gx gy hb h1 h2 hv hH
      subst hH
      unfold Oper.wp execOp
      rw [hop]
      dsimp only
      have : (do pure (.value (if ← asBool (a.eval cnd) then a.eval x else a.eval y)) : Sem Next).run cx.P w = .ok (.value (if b then a.eval x else a.eval y)) w := by rw [hb]; simp [asBool]
      rw [this]
      refine hk _ ρ S w hs ?_ Step.refl
      rw [hv]
      refine merge_sound (fun e => ?_) (fun e => ?_)
      · subst e; exact evS_sound hsl (h1 rfl) x
      · subst e; exact evS_sound hsl (h2 rfl) y
    split at h
    · rename_i tt b hcv
      have hb := hev (.tmp tt)
      rw [hcv] at hb
      have hb' := rep_bool hb
      split at h
      · rename_i b0 _
        simp only [Option.some.injEq, Prod.mk.injEq] at h; obtain ⟨hv, hH, hcc, -⟩ := h
        rw [hc1] at hcc
        have hbb : b = b0 := by simpa using hcc
        subst hbb; subst hH
        unfold Oper.wp execOp
        rw [hop]
        dsimp only
        have : (do pure (.value (if ← asBool (a.eval (.tmp tt)) then a.eval x else a.eval y)) : Sem Next).run cx.P w = .ok (.value (if b then a.eval x else a.eval y)) w := by rw [hb']; simp [asBool]
        rw [this]
        refine hk _ ρ S w hs ?_ Step.refl
        rw [← hv]
        cases b
        · exact hev y
        · exact hev x
      simp only [Option.some.injEq, Prod.mk.injEq] at h; obtain ⟨hv, hH, -, -⟩ := h
      have hget : a.tmps[tt]? = some (.bool b) := by
        simp only [Act.eval, Array.getD_eq_getD_getElem?] at hb'
        cases hh : a.tmps[tt]? with
        | none => rw [hh] at hb'; simp [undef] at hb'
        | some z => rw [hh] at hb'; simp at hb'; rw [hb']
      exact key b _ _ hb' (fun e p hp => by subst e; rcases List.mem_cons.1 hp with rfl | hp; exact hget; exact hg p hp) (fun e p hp => by subst e; rcases List.mem_cons.1 hp with rfl | hp; exact hget; exact hg p hp) hv.symm hH.symm
    · rename_i cv b hcv
      simp only [Option.some.injEq, Prod.mk.injEq] at h; obtain ⟨hv, hH, -, -⟩ := h
      have hb := hev (.const cv)
      rw [hcv] at hb
      exact key b _ _ (rep_bool hb) (fun _ => hg) (fun _ => hg) hv.symm hH.symm
    · cases h
  · -- call
    rename_i f args ats hop
    have hf := hev f
    split at h
    · rename_i g caps hfv
      have hcall := h
      rw [hc1] at hcall
      · skip
        rw [hfv] at hf
        generalize hF : a.eval f = F at hf
        cases hf with
        | fn hl hr =>
          rename_i cs
          have hargs := (reps_map (fun x => unfro_sound hs _ _ (hev x)) args.toList).append (⟨hl, hr⟩ : Reps cx.D ρ S w caps cs)
          obtain ⟨⟨fn, hfn, hname, hbody⟩, hcalls⟩ := callO_sound hD hc hs hcall hargs
          unfold Oper.wp execOp
          rw [hop]
          dsimp only
          have hrun : (do let d ← resolve a.eval { callee := .value f, args := args, argTypes := ats } o.type; invoke d.target d.args : Sem Next).run cx.P w = .ok (.enter g (args.toList.map a.eval ++ cs).toArray) w := by
            simp only [resolve, hF, Deferred.ofValue, Sem.run_bind, Sem.run_pure, Result.andThen_ok, invoke, callFunc, run_program]
            rw [hfn]
            simp only [hname, hbody, Bool.false_eq_true, if_false, Sem.run_pure]
            congr 2
            apply Array.ext'
            simp
          rw [hrun, Oper.upon_enter]
          refine hcalls.mono ?_
          rintro e w' ⟨u, ρ', S', rfl, h1, h2, h3⟩
          exact hk u ρ' S' w' h1 h2 h3
    · cases h
  · -- assign
    rename_i x hop
    have hrun : ∀ (v' : AV K), Rep cx.D ρ S w v' (a.eval x) → v = v' → H' = H → o.wp cx.P a w k Q := fun v' h1 h2 h3 => by
      subst h2; subst h3
      unfold Oper.wp execOp
      rw [hop]
      exact hk _ ρ S w hs h1 Step.refl
    split at h
    · rename_i hq
      split at h
      · split at h
        · rename_i c _
          simp only [Option.some.injEq, Prod.mk.injEq] at h; obtain ⟨rfl, rfl, rfl, rfl⟩ := h
          simp only [Bool.and_eq_true] at hq
          have hx : x = .const (.slice none 0 0) := by
            have := hq.2
            unfold nilConst at this
            split at this
            · rfl
            · cases this
          obtain ⟨n1, n2⟩ := nil_new hs c (cx.deep c)
          unfold Oper.wp execOp
          rw [hop, hx]
          exact hk _ _ S w n1 (.sl (by rw [List.getElem?_append_right (by rw [hs.len]; exact Nat.le_refl _)]; simp [hs.len])) n2
        · simp only [Option.some.injEq, Prod.mk.injEq] at h
          exact hrun _ (hev x) h.1.symm h.2.1.symm
      · simp only [Option.some.injEq, Prod.mk.injEq] at h
        exact hrun _ (hev x) h.1.symm h.2.1.symm
    · simp only [Option.some.injEq, Prod.mk.injEq] at h
      exact hrun _ (unfro_sound hs _ _ (hev x)) h.1.symm h.2.1.symm
  · split at h
    · rename_i v1 c1 hp
      simp only [Option.some.injEq, Prod.mk.injEq] at h; obtain ⟨rfl, rfl, rfl, rfl⟩ := h
      obtain ⟨u, hu, hr⟩ := pureV_sound hD hs (fun x => unfro_sound hs _ _ (hev x)) hp hc1
      unfold Oper.wp
      rw [hu]
      exact hk u ρ S w hs hr Step.refl
    · split at h
      · obtain ⟨rfl, u, w1, S1, g1, g2, g3, g4⟩ := froV_sound hD hs (fun x => unfro_sound hs _ _ (hev x)) h hc1
        unfold Oper.wp
        rw [g1]
        exact hk u ρ S1 w1 g2 g3 g4
      · split at h
        · cases h
        split at h
        · rename_i hov
          simp only [Option.some.injEq] at h; rw [h] at hov
          exact wp_of_does (openV_sound hD hs hev hov) fun u ρ' S' w' a1 a2 a3 => hk u ρ' S' w' a1 a2 a3
        split at h
        · rename_i hct
          simp only [Option.some.injEq] at h; rw [h] at hct
          exact wp_of_does (cutV_sound hs hev hct hc1) fun u ρ' S' w' a1 a2 a3 => hk u ρ' S' w' a1 a2 a3
        · obtain ⟨S1, H1, g1, g2, g3⟩ := objF_sound hD hs hev h hc1
          refine wp_of_does g3 fun u ρ' S' w' a1 a2 a3 => hk u ρ' S' w' a1 a2 ?_
          rw [g2] at a3
          exact g1.trans a3

theorem callP_plain {cx : Cx K} {f : FuncId} {args : List (AV K)} {v : AV K} {c : Bool} {t : List Nat} (hcall : callP cx .plain H f args = some (v, H', c, t)) : H' = H := by
  unfold callP at hcall
  dsimp only at hcall
  split at hcall
  · split at hcall
    · split at hcall
      · simp only [Option.some.injEq, Prod.mk.injEq] at hcall; exact hcall.2.1.symm
      · cases hcall
    · cases hcall
  · cases hcall

theorem froV_H {cx : Cx K} {ev : Operand → AV K} {op : Op} {v : AV K} {c : Bool} {t : List Nat} (h : froV cx ev H op = some (v, H', c, t)) : H' = H := by
  unfold froV at h
  split at h
  · split at h
    · cases h
    · split at h
      · split at h
        · split at h
          · simp only [Option.some.injEq, Prod.mk.injEq] at h; exact h.2.1.symm
          · cases h
        · cases h
      · cases h
  · cases h
theorem quiet_H {cx : Cx K} {tm : List (AV K)} {gs : List (Nat × Bool)} {T : TypeId} {op : Op} {v : AV K} {c : Bool} {t : List Nat} (h : yieldV true cx tm gs H T op = some (v, H', c, t)) : H' = H := by
  unfold yieldV at h
  split at h
  · split at h
    · split at h
      · simp only [Option.some.injEq, Prod.mk.injEq] at h; exact h.2.1.symm
      · simp only [Option.some.injEq, Prod.mk.injEq] at h; exact h.2.1.symm
    · simp only [Option.some.injEq, Prod.mk.injEq] at h; exact h.2.1.symm
    · cases h
  · split at h
    · unfold callO at h
      simp only [Bool.not_true, Bool.and_false, Bool.false_eq_true, if_false] at h
      unfold callV at h
      split at h
      · exact callP_plain h
      · split at h
        · rename_i r hr
          simp only [Option.some.injEq] at h; subst h
          exact callP_plain hr
        · simp at h
      all_goals simp at h
    · cases h
  · simp only [Bool.not_true, Bool.false_and, Bool.false_eq_true, if_false, Option.some.injEq, Prod.mk.injEq] at h
    exact h.2.1.symm
  · split at h
    · simp only [Option.some.injEq, Prod.mk.injEq] at h; exact h.2.1.symm
    · simp only [if_true] at h
      exact froV_H h

theorem simple_H {q : Bool} {cx : Cx K} {tm : List (AV K)} {gs : List (Nat × Bool)} {T : TypeId} {op : Op} {v : AV K} {c : Bool} {t : List Nat} (hs : simpleOp cx op = true) (h : yieldV q cx tm gs H T op = some (v, H', c, t)) : H' = H := by
  cases q with
  | true => exact quiet_H h
  | false =>
  unfold yieldV at h
  split at h
  · split at h
    · split at h
      · simp only [Option.some.injEq, Prod.mk.injEq] at h; exact h.2.1.symm
      · simp only [Option.some.injEq, Prod.mk.injEq] at h; exact h.2.1.symm
    · simp only [Option.some.injEq, Prod.mk.injEq] at h; exact h.2.1.symm
    · cases h
  · rename_i f args ats
    cases f <;> simp only [simpleOp] at hs <;> try (cases hs; done)
    rename_i g
    simp only [evS] at h
    have hm : cx.mode g = .plain ∧ (cx.opn = false ∨ cx.lz = true) := by simpa using hs
    unfold callO at h
    have hoz : (cx.opn && !cx.lz && !false) = false := by rcases hm.2 with e | e <;> simp [e]
    rw [hoz] at h
    simp only [Bool.false_eq_true, if_false] at h
    replace hm := hm.1
    unfold callV at h
    rw [hm] at h
    exact callP_plain h
  · simp only [simpleOp, Bool.not_eq_true'] at hs
    rw [hs] at h
    simp only [Bool.and_false, Bool.false_eq_true, if_false, Option.some.injEq, Prod.mk.injEq] at h
    exact h.2.1.symm
  · split at h
    · simp only [Option.some.injEq, Prod.mk.injEq] at h; exact h.2.1.symm
    · rw [hs] at h; simp at h

end Go.V
