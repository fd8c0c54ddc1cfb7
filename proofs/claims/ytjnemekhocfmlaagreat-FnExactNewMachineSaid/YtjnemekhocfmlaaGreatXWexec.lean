/-
  CODE: what 'execC' yields is what the machine does.
-/
import Derived.Test.YtjnemekhocfmlaaGreatXWperm
set_option linter.unusedVariables false
namespace Go.V
open Go
variable {K : Uni} {ρ ρ' : List Value} {S S' : Nat → Prop} {w w' : World} {H H' : List (Ob K)}
def Tr (cx : Cx K) (n0 : Nat) (c : Code) (st : St K) (e : Ex) (st' : St K) : Prop :=
  ∀ (ρ : List Value) (S : Nat → Prop) (a : Act) (w : World), n0 ≤ st.H.length → Sat cx ρ S a w st →
    c.wp cx.P (fun e' a' w' => e' = e.toExit ∧ n0 ≤ st'.H.length ∧ ∃ ρ' S', Sat cx ρ' S' a' w' st' ∧ Step cx.D n0 ρ S st.H w ρ' S' st'.H w') a w

theorem Step.drew {D : Cod K} {n0 n : Nat} {ρ ρ' : List Value} {S S' : Nat → Prop} {w w' : World} {H H' : List (Ob K)} (h : Step D n0 ρ S H { w with drawn := n } ρ' S' H' w') : Step D n0 ρ S H w ρ' S' H' w' :=
  have g : ∀ b, Own D { w with drawn := n } ρ H b → Own D w ρ H b := fun b h => h.old fun _ _ => rfl
  ⟨h.os, h.tape, h.output, h.size, fun b hb hn => h.old b hb fun hO => hn (g b hO), fun b hb => (h.own b hb).imp (g b) id, h.s1, fun b hb => (h.s2 b hb).imp id (Or.imp (g b) id), h.pre⟩


theorem Sat.drawn {cx : Cx K} {a : Act} {st : St K} (h : Sat cx ρ S a w st) (n : Nat) : Sat cx ρ S a { w with drawn := n } st :=
  ⟨h.heap.world (Nat.le_refl _) (fun _ _ => rfl) (fun _ _ => rfl), Slots.mono (w := w) (w' := { w with drawn := n }) (fun _ h => h) (fun _ _ => rfl) (fun _ _ h => h) h.slots, h.defers⟩

theorem runOps_opt {cx : Cx K} {ops : List Oper} : ∀ (l : List Oper) (st st' : St K) (wr wr' : List Nat), runOps cx ops l st wr = some (st', wr') → OptIn st.tm wr → OptIn st'.tm wr'
  | [], st, st', wr, wr', h, ho => by simp only [runOps, Option.some.injEq, Prod.mk.injEq] at h; obtain ⟨rfl, rfl⟩ := h; exact ho
  | o :: r, st, st', wr, wr', h, ho => by
    simp only [runOps] at h
    split at h
    · rename_i st1 wr1 h1
      refine runOps_opt r st1 st' wr1 wr' h ?_
      unfold stepV at h1
      split at h1
      · rename_i v H1 c hsv
        obtain ⟨-, -, p3⟩ := putV_spec h1
        rcases p3 with ⟨e1, e2, e3⟩ | ⟨d, e1, e2, e3, e4, e5⟩
        · rw [e2, e3]; exact ho
        · rw [e4, e5]; exact ho.put (slotV_opt hsv)
      · cases h1
    · cases h

theorem simple_quiet {cx : Cx K} {op : Op} (h : simpleOp cx op = true) : quietOp cx op = true := by
  unfold quietOp
  split
  · rfl
  · simp only [simpleOp] at h; simp [h]
  · simp only [simpleOp, Bool.and_eq_true] at h; simp [h.1]
  · exact h

theorem runPerm_cases {cx : Cx K} {ops : List Oper} {π : List Nat} {st st' : St K} (h : runPerm cx ops π st = some st') : permB π ops.length = true ∧ runDrawn cx (permuted π ops) st = some st' := by
  unfold runPerm at h
  split at h
  · rename_i hp; exact ⟨hp, h⟩
  · cases h
theorem runAny_cases {cx : Cx K} {ops : List Oper} {st st' : St K} (h : runAny cx ops st = some st') : runDrawn cx ops st = some st' ∨ ∃ π, permB π ops.length = true ∧ runDrawn cx (permuted π ops) st = some st' := by
  unfold runAny at h
  split at h
  · split at h
    · rename_i r hr
      simp only [Option.some.injEq] at h; subst h
      exact .inl hr
    · exact .inr ⟨_, runPerm_cases h⟩
  · split at h
    · rename_i r hr
      simp only [Option.some.injEq] at h; subst h
      exact .inr ⟨_, runPerm_cases hr⟩
    · exact .inr ⟨_, runPerm_cases h⟩
theorem drawn_any {cx : Cx K} (hD : CodOk cx.D) (hc : CallOk cx) {n0 : Nat} {ops : Array Oper} {st st' : St K} (h : runDrawn cx ops.toList st = some st') :
    (st'.ok = true → st.ok = true) ∧ (st'.ok = true → NoOpt st.tm → NoOpt st'.tm ∧ ∀ (ρ : List Value) (S : Nat → Prop) (a : Act) (w : World), n0 ≤ st.H.length → Sat cx ρ S a w st →
      wpAny cx.P .any ops (fun e' a' w' => e' = Ex.normal.toExit ∧ n0 ≤ st'.H.length ∧ ∃ ρ' S', Sat cx ρ' S' a' w' st' ∧ Step cx.D n0 ρ S st.H w ρ' S' st'.H w') ops.size (Array.replicate ops.size false) a { w with drawn := w.drawn + 1 }) := by
  unfold runDrawn at h
  split at h
  · rename_i hsm
    simp only [Bool.and_eq_true] at hsm
    split at h
    · rename_i s1 wr hr
      simp only [Option.some.injEq] at h; subst h
      have hk := runDraw_ok _ _ _ _ _ _ hr
      refine ⟨fun hok => (hk hok).1, fun hok h0 => ?_⟩
      obtain ⟨vals, hd, hwr⟩ := runDraw_spec hr hok
      have hH := (hk hok).2
      have hsimple : ∀ (i : Nat) o, ops.toList[i]? = some o → quietOp cx o.op = true := fun i o ho =>
        List.all_eq_true.1 hsm.1 o (List.mem_of_getElem? ho)
      have hopt : OptIn s1.tm wr := fun t g b v e => by
        rcases dst_of ops.toList t with hn | ⟨k, o, hk1, hk2⟩
        · rw [hd.rest t hn] at e; exact absurd e (h0 t g b v)
        · rw [hd.fin k o t hk1 hk2] at e
          refine ⟨(hwr t).2 ⟨k, o, hk1, hk2⟩, ?_⟩
          obtain ⟨tmi, wri, H1, q1, q2, q3, q4, q5⟩ := hd.slot k o hk1
          simp only [Option.some.injEq] at e
          rw [e] at q1
          obtain ⟨k', o', -, c2, c3⟩ := q5 g (slotV_opt q1 g b v rfl)
          exact (hwr g).2 ⟨k', o', c2, c3⟩
      refine ⟨NoOpt.wipe hopt, fun ρ S a w hn hsat => ?_⟩
      have hsat' := hsat.drawn (w.drawn + 1)
      have hall : ops = ops.toList.toArray := by simp
      have hmid : Mid cx ops.toList st.tm vals st.H ρ S (Array.replicate ops.size false) a { w with drawn := w.drawn + 1 } := by
        have hf : ∀ (k : Nat), (Array.replicate ops.size false)[k]? ≠ some true := fun k e => by
          rw [Array.getElem?_replicate] at e; split at e <;> simp at e
        refine ⟨hsat'.heap, hsat'.defers, hsat'.slots.len.symm, by simp, fun t v x hn1 h1 h2 => ?_, fun k o d x h1 h2 => absurd h2 (hf k), fun k g b y h1 => absurd h1 (hf k), fun k o h1 h2 => absurd h2 (hf k)⟩
        have := hsat'.slots.ok t v x h1 h2
        cases v with
        | opt g b y => exact absurd h1 (h0 t g b y)
        | _ => exact this
      rw [hH]
      have key := draw_any hD hc hsimple hsm.2 hd h0 (n0 := n0) hn (Q := fun e' a' w' => e' = Ex.normal.toExit ∧ n0 ≤ st.H.length ∧ ∃ ρ' S', Sat cx ρ' S' a' w' ⟨wipeOpt s1.tm wr, st.H, s1.ok⟩ ∧ Step cx.D n0 ρ S st.H w ρ' S' st.H w') ops.size (Array.replicate ops.size false) ρ S a { w with drawn := w.drawn + 1 } hmid (todo_start _) fun ρ' S' a' w' g1 g2 g3 g4 => by
          exact ⟨rfl, hn, ρ', S', ⟨g1, g2.wipe _ _, g3⟩, g4.drew⟩
      rw [← hall] at key
      exact key
    · cases h
  · split at h
    · rename_i hed
      split at h
      · rename_i s1 wr hr
        simp only [Option.some.injEq] at h; subst h
        refine ⟨fun hok => runFree_ok _ _ _ _ _ _ _ _ hr hok, fun hok h0 => ?_⟩
        obtain ⟨F, ms, ws, hp⟩ := runFree_spec hr hok
        have hopt : OptIn s1.tm wr := fun t g b v e => by
          rcases dst_of ops.toList t with hn | ⟨k, o, hk1, hk2⟩
          · rw [hp.rest t fun k o _ h => hn k o h] at e; exact absurd e (h0 t g b v)
          · have hkL := (List.getElem?_eq_some_iff.1 hk1).1
            rw [hp.fin k o t hkL hk1 hk2] at e
            refine ⟨(hp.wrs t).2 ⟨k, o, hkL, hk1, hk2⟩, ?_⟩
            obtain ⟨tmi, wri, fs⟩ := hp.slot k o hkL hk1
            simp only [Option.some.injEq] at e
            have q1 := fs.slot
            rw [e] at q1
            have hg : g ∈ wri := by
              unfold slotF at q1
              split at q1
              · exact slotV_opt q1 g b v rfl
              · split at q1
                · exact slotV_opt q1 g b v rfl
                · cases q1
            obtain ⟨k', o', c1, c2, c3⟩ := fs.wri g hg
            exact (hp.wrs g).2 ⟨k', o', by omega, c2, c3⟩
        refine ⟨NoOpt.wipe hopt, fun ρ S a w hn hsat => ?_⟩
        have hsat' := hsat.drawn (w.drawn + 1)
        have hall : ops = ops.toList.toArray := by simp
        have hmid := FMid.start hp hsat'.heap hsat'.defers hsat'.slots h0
        have hpad := Step.pad (n := s1.H.length) (n0 := n0) hsat'.heap hn
        have key := free_any hD hc hed hp (n0 := n0) hn (Q := fun e' a' w' => e' = Ex.normal.toExit ∧ n0 ≤ s1.H.length ∧ ∃ ρ' S', Sat cx ρ' S' a' w' ⟨wipeOpt s1.tm wr, s1.H, s1.ok⟩ ∧ Step cx.D n0 ρ S st.H w ρ' S' s1.H w') ops.size (Array.replicate ops.toList.length false) _ _ S a { w with drawn := w.drawn + 1 } hmid (by have := todo_start ops.toList.length; simpa using this) fun ρ' S' a' w' g1 g2 g3 g4 => by
            have g5 := hpad.trans g4
            exact ⟨rfl, Nat.le_trans hn hp.len0, ρ', S', ⟨g1, g2.wipe _ _, g3⟩, g5.drew⟩
        rw [← hall] at key
        simpa using key
      · cases h
    · cases h

theorem region_tr {cx : Cx K} (hD : CodOk cx.D) (hc : CallOk cx) (hm : cx.P.follows .mixedOrders = true) {n0 : Nat} {id : Nat} {ops : Array Oper} {draw : Bool} {st st' : St K} (h : runRegion cx ops.toList draw st = some st') :
    (st'.ok = true → st.ok = true) ∧ (st'.ok = true → NoOpt st.tm → NoOpt st'.tm ∧ Tr cx n0 (.region id ops draw) st .normal st') := by
  unfold runRegion at h
  split at h
  · rename_i hdr
    subst hdr
    rcases runAny_cases h with h | ⟨π, hp, h⟩
    · obtain ⟨h1, h2⟩ := drawn_any (n0 := n0) hD hc h
      refine ⟨h1, fun hok h0 => ⟨(h2 hok h0).1, fun ρ S a w hn hsat => wp_region_any hm ((h2 hok h0).2 ρ S a w hn hsat)⟩⟩
    · have hp' := permuted_ok hp
      have e : ops.toList.toArray = ops := by simp
      rw [e] at hp'
      have h' : runDrawn cx ((permuted π ops.toList).toArray).toList st = some st' := h
      obtain ⟨h1, h2⟩ := drawn_any (n0 := n0) hD hc h'
      refine ⟨h1, fun hok h0 => ⟨(h2 hok h0).1, fun ρ S a w hn hsat => wp_region_any hm ?_⟩⟩
      have := (h2 hok h0).2 ρ S a w hn hsat
      rw [hp'.len'] at this
      exact wpAny_perm hp' _ _ _ _ _ ⟨by simp, by simp, fun j i hj => by
        obtain ⟨o, ho, ho'⟩ := hp'.ops j i hj
        have hi := (Array.getElem?_eq_some_iff.1 ho).1
        have hj' := (Array.getElem?_eq_some_iff.1 ho').1
        rw [hp'.len'] at hj'
        rw [Array.getElem?_replicate, Array.getElem?_replicate, if_pos hi, if_pos hj']⟩ this
  · rename_i hdr
    split at h
    · rename_i s1 wr hr
      simp only [Option.some.injEq] at h; subst h
      refine ⟨fun hok => runOps_ok _ _ _ _ _ hr hok, fun hok h0 => ?_⟩
      refine ⟨NoOpt.wipe (runOps_opt _ _ _ _ _ hr h0.in), fun ρ S a w hn hsat => ?_⟩
      have hdr' : draw = false := by simpa using hdr
      subst hdr'
      refine wp_region_list ?_
      have key := runOps_wp (n0 := n0) hD hc ops.toList st s1 [] wr ρ S a w hr hok hsat h0.in hn (Q := fun e' a' w' => e' = Ex.normal.toExit ∧ n0 ≤ s1.H.length ∧ ∃ ρ' S', Sat cx ρ' S' a' w' ⟨wipeOpt s1.tm wr, s1.H, s1.ok⟩ ∧ Step cx.D n0 ρ S st.H w ρ' S' s1.H w') fun ρ' S' a' w' g1 g2 g3 =>
        ⟨rfl, g3.grow hsat.heap g1.heap hn, ρ', S', ⟨g1.heap, g1.slots.wipe _ _, g1.defers⟩, g3⟩
      exact key
    · cases h

/-! ### code that only computes -/

theorem wipeOpt_rest : ∀ (wr : List Nat) (tm : List (AV K)) (t : Nat), t ∉ wr → (wipeOpt tm wr)[t]? = tm[t]?
  | [], tm, t, h => rfl
  | d :: r, tm, t, h => by
    simp only [List.mem_cons, not_or] at h
    simp only [wipeOpt]
    split
    · rw [wipeOpt_rest r _ t h.2, List.getElem?_set_ne (Ne.symm h.1)]
    · exact wipeOpt_rest r tm t h.2
theorem wipeOpt_length : ∀ (wr : List Nat) (tm : List (AV K)), (wipeOpt tm wr).length = tm.length
  | [], tm => rfl
  | d :: r, tm => by
    simp only [wipeOpt]
    split
    · rw [wipeOpt_length r]; simp
    · exact wipeOpt_length r tm

theorem slotV_simple {q : Bool} {cx : Cx K} {ops : List Oper} {tm : List (AV K)} {wr : List Nat} {o : Oper} {v : AV K} {c : Bool} (hs : simpleOp cx o.op = true) (h : slotV q cx ops tm H wr o = some (v, H', c)) : H' = H := by
  unfold slotV at h
  split at h
  · cases h
  · split at h
    · rename_i hy
      split at h
      · cases h
      · simp only [Option.some.injEq, Prod.mk.injEq] at h; obtain ⟨-, rfl, -⟩ := h
        exact simple_H hs hy
    · cases h
  · split at h
    · split at h
      · split at h
        · split at h
          · rename_i hy
            split at h
            · cases h
            · simp only [Option.some.injEq, Prod.mk.injEq] at h; obtain ⟨-, rfl, -⟩ := h
              exact simple_H hs hy
          · cases h
        · simp only [Option.some.injEq, Prod.mk.injEq] at h; exact h.2.1.symm
      · cases h
    split at h
    · cases h
    · split at h
      · split at h
        · simp only [Option.some.injEq, Prod.mk.injEq] at h; exact h.2.1.symm
        · cases h
      · cases h
structure Quiet (st st' : St K) (wr : List Nat) : Prop where
  H : st'.H = st.H
  len : st'.tm.length = st.tm.length
  rest : ∀ t, t ∉ wr → st'.tm[t]? = st.tm[t]?

theorem putV_quiet {st st' : St K} {wr wr' ds : List Nat} {dst : Option Nat} {v : AV K} {ok : Bool} (h : putV st wr dst v st.H ok = some (st', wr')) (hd : ∀ d, dst = some d → d ∈ ds) (hw : ∀ d ∈ wr, d ∈ ds) : Quiet st st' ds ∧ ∀ d ∈ wr', d ∈ ds := by
  obtain ⟨p1, p2, p3⟩ := putV_spec h
  rcases p3 with ⟨e1, e2, e3⟩ | ⟨d, e1, e2, e3, e4, e5⟩
  · exact ⟨⟨p1, by rw [e2], fun t _ => by rw [e2]⟩, by rw [e3]; exact hw⟩
  · refine ⟨⟨p1, by rw [e4]; simp, fun t ht => ?_⟩, fun d' hd' => ?_⟩
    · rw [e4, List.getElem?_set_ne fun e => ht (by rw [← e]; exact hd d e1)]
    · rw [e5] at hd'
      rcases List.mem_cons.1 hd' with rfl | h'
      · exact hd _ e1
      · exact hw _ h'
theorem Quiet.trans {st st1 st2 : St K} {wr : List Nat} (a : Quiet st st1 wr) (b : Quiet st1 st2 wr) : Quiet st st2 wr :=
  ⟨b.H.trans a.H, b.len.trans a.len, fun t ht => (b.rest t ht).trans (a.rest t ht)⟩
theorem Quiet.more {st st1 : St K} {wr wr' : List Nat} (a : Quiet st st1 wr) (h : ∀ d ∈ wr, d ∈ wr') : Quiet st st1 wr' := ⟨a.H, a.len, fun t ht => a.rest t fun h' => ht (h t h')⟩

theorem runOps_quiet {cx : Cx K} {ops : List Oper} {ds : List Nat} : ∀ (l : List Oper) (st st' : St K) (wr wr' : List Nat), runOps cx ops l st wr = some (st', wr') → (∀ o ∈ l, simpleOp cx o.op = true) → (∀ o ∈ l, ∀ d, o.dst = some d → d ∈ ds) → (∀ d ∈ wr, d ∈ ds) → Quiet st st' ds ∧ ∀ d ∈ wr', d ∈ ds
  | [], st, st', wr, wr', h, _, _, hw => by simp only [runOps, Option.some.injEq, Prod.mk.injEq] at h; obtain ⟨rfl, rfl⟩ := h; exact ⟨⟨rfl, rfl, fun _ _ => rfl⟩, hw⟩
  | o :: r, st, st', wr, wr', h, hs, hd, hw => by
    simp only [runOps] at h
    split at h
    · rename_i st1 wr1 h1
      unfold stepV at h1
      split at h1
      · rename_i v H1 c hsv
        have hH := slotV_simple (hs o (by simp)) hsv
        subst hH
        obtain ⟨q1, q2⟩ := putV_quiet h1 (fun d e => hd o (by simp) d e) hw
        obtain ⟨q3, q4⟩ := runOps_quiet r st1 st' wr1 wr' h (fun o ho => hs o (by simp [ho])) (fun o ho => hd o (by simp [ho])) q2
        exact ⟨q1.trans q3, q4⟩
      · cases h1
    · cases h
theorem runDraw_quiet {cx : Cx K} {L : List Oper} {bs ds : List Nat} : ∀ (l : List Oper) (i : Nat) (st st' : St K) (wr wr' : List Nat), runDraw cx L bs l i st wr = some (st', wr') → (∀ o ∈ l, ∀ d, o.dst = some d → d ∈ ds) → (∀ d ∈ wr, d ∈ ds) → Quiet st st' ds ∧ ∀ d ∈ wr', d ∈ ds
  | [], i, st, st', wr, wr', h, _, hw => by simp only [runDraw, Option.some.injEq, Prod.mk.injEq] at h; obtain ⟨rfl, rfl⟩ := h; exact ⟨⟨rfl, rfl, fun _ _ => rfl⟩, hw⟩
  | o :: r, i, st, st', wr, wr', h, hd, hw => by
    simp only [runDraw] at h
    split at h
    · split at h
      · rename_i st1 wr1 h1
        obtain ⟨q1, q2⟩ := putV_quiet h1 (fun d e => hd o (by simp) d e) hw
        obtain ⟨q3, q4⟩ := runDraw_quiet r _ st1 st' wr1 wr' h (fun o ho => hd o (by simp [ho])) q2
        exact ⟨q1.trans q3, q4⟩
      · cases h
    · cases h

theorem Quiet.wipe {st st1 : St K} {wr ds : List Nat} (a : Quiet st st1 ds) (h : ∀ d ∈ wr, d ∈ ds) : Quiet st ⟨wipeOpt st1.tm wr, st1.H, st1.ok⟩ ds :=
  ⟨a.H, by simp [wipeOpt_length, a.len], fun t ht => by dsimp only; rw [wipeOpt_rest wr _ t fun h' => ht (h t h')]; exact a.rest t ht⟩

theorem splitRun_spec {cx : Cx K} {ops : List Oper} {draw : Bool} {st : St K} {b : Bool} {s1 s2 : St K} : ∀ (l : List Nat), splitRun cx ops draw st l = some (b, s1, s2) →
    ∃ t, runRegion { cx with gs := some (t, true) } ops draw st = some s1 ∧ runRegion { cx with gs := some (t, false) } ops draw st = some s2
  | [], h => by cases h
  | t :: r, h => by
    unfold splitRun at h
    split at h
    · rename_i a1 a2 h1 h2
      split at h
      · simp only [Option.some.injEq, Prod.mk.injEq] at h; obtain ⟨-, rfl, rfl⟩ := h
        exact ⟨t, h1, h2⟩
      · exact splitRun_spec r h
    · exact splitRun_spec r h

theorem Sat.gs {cx : Cx K} {g : Option (Nat × Bool)} {a : Act} {st : St K} (h : Sat cx ρ S a w st) : Sat { cx with gs := g } ρ S a w st := ⟨h.heap, h.slots, h.defers⟩
theorem Sat.ungs {cx : Cx K} {g : Option (Nat × Bool)} {a : Act} {st : St K} (h : Sat { cx with gs := g } ρ S a w st) : Sat cx ρ S a w st := ⟨h.heap, h.slots, h.defers⟩
theorem Tr.gs {cx : Cx K} {g : Option (Nat × Bool)} {n0 : Nat} {c : Code} {st st' : St K} {e : Ex} (h : Tr { cx with gs := g } n0 c st e st') : Tr cx n0 c st e st' := fun ρ S a w hn hs =>
  wp_mono (h ρ S a w hn hs.gs) fun e' a' w' ⟨h1, h2, ρ', S', h3, h4⟩ => ⟨h1, h2, ρ', S', h3.ungs, h4⟩

theorem simple_gs {cx : Cx K} {g : Option (Nat × Bool)} : ∀ (o : Op), simpleOp { cx with gs := g } o = simpleOp cx o := fun o => by
  unfold simpleOp; rfl

theorem region_quiet {cx : Cx K} {id : Nat} {ops : Array Oper} {draw : Bool} {st st' : St K} (hs : ∀ o ∈ ops.toList, simpleOp cx o.op = true) (hr : runRegion cx ops.toList draw st = some st') : Quiet st st' (writes (.region id ops draw)) := by
  have hd : ∀ o ∈ ops.toList, ∀ d, o.dst = some d → d ∈ writes (.region id ops draw) := fun o ho d hd => by
    simp only [writes, List.mem_filterMap]; exact ⟨o, ho, hd⟩
  have dq : ∀ (L : List Oper), (∀ o ∈ L, simpleOp cx o.op = true) → (∀ o ∈ L, ∀ d, o.dst = some d → d ∈ writes (.region id ops draw)) → runDrawn cx L st = some st' → Quiet st st' (writes (.region id ops draw)) := fun L hs hd hr => by
    unfold runDrawn at hr
    split at hr
    · split at hr
      · rename_i s1 wr h1
        simp only [Option.some.injEq] at hr; subst hr
        obtain ⟨q1, q2⟩ := runDraw_quiet _ _ _ _ _ _ h1 hd (by simp)
        exact q1.wipe q2
      · cases hr
    · rename_i hnq
      split at hr
      · rename_i hed
        exact absurd (by rw [Bool.and_eq_true]; exact ⟨List.all_eq_true.2 fun o ho => simple_quiet (hs o ho), hed⟩) hnq
      · cases hr
  unfold runRegion at hr
  split at hr
  · rcases runAny_cases hr with hr | ⟨π, hp, hr⟩
    · exact dq _ hs hd hr
    · have hp' := permuted_ok hp
      have src : ∀ o ∈ permuted π ops.toList, ∃ o1 ∈ ops.toList, o = reIx π ops.toList.length o1 := fun o ho => by
        obtain ⟨j, hj, e⟩ := List.getElem_of_mem ho
        have hjn : j < π.length := by simpa [permuted] using hj
        obtain ⟨o1, h1, h2⟩ := hp'.ops j _ (List.getElem?_eq_getElem hjn)
        have h3 : (permuted π ops.toList)[j]? = some o := by rw [List.getElem?_eq_getElem hj, e]
        have h4 := h3.symm.trans (by simpa using h2)
        exact ⟨o1, List.mem_of_getElem? (by simpa using h1), by simpa using Option.some.inj h4⟩
      refine dq _ (fun o ho => ?_) (fun o ho d hod => ?_) hr
      · obtain ⟨o1, h1, rfl⟩ := src o ho
        exact hs o1 h1
      · obtain ⟨o1, h1, rfl⟩ := src o ho
        exact hd o1 h1 d hod
  · split at hr
    · rename_i s1 wr h1
      simp only [Option.some.injEq] at hr; subst hr
      obtain ⟨q1, q2⟩ := runOps_quiet _ _ _ _ _ h1 hs hd (by simp)
      exact q1.wipe q2
    · cases hr

theorem simple_exec {cx : Cx K} : ∀ (c : Code), simple cx c = true → ∀ {R : Type} (st : St K) (k : Ex → St K → Option R) (r : R), execC cx c st k = some r → ∃ st', k .normal st' = some r ∧ Quiet st st' (writes c)
  | .skip, _, R, st, k, r, h => ⟨st, h, rfl, rfl, fun _ _ => rfl⟩
  | .region id ops draw, hs, R, st, k, r, h => by
    simp only [execC] at h
    have hs' : ∀ o ∈ ops.toList, simpleOp cx o.op = true := by simpa only [simple, List.all_eq_true] using hs
    split at h
    · rename_i st' hr
      exact ⟨st', h, region_quiet hs' hr⟩
    · split at h
      · rename_i b s1 s2 hsp
        obtain ⟨t, h1, h2⟩ := splitRun_spec _ hsp
        cases b with
        | true => exact ⟨s1, h, region_quiet (cx := { cx with gs := some (t, true) }) (fun o ho => by rw [simple_gs]; exact hs' o ho) h1⟩
        | false => exact ⟨s2, h, region_quiet (cx := { cx with gs := some (t, false) }) (fun o ho => by rw [simple_gs]; exact hs' o ho) h2⟩
      · cases h
  | .seq a b, hs, R, st, k, r, h => by
    simp only [simple, Bool.and_eq_true] at hs
    simp only [execC] at h
    obtain ⟨s1, h1, q1⟩ := simple_exec a hs.1 st _ r h
    obtain ⟨s2, h2, q2⟩ := simple_exec b hs.2 s1 k r h1
    exact ⟨s2, h2, (q1.more fun d hd => by simp [writes, hd]).trans (q2.more fun d hd => by simp [writes, hd])⟩
  | .cond c a b, hs, R, st, k, r, h => by
    have hs' := hs
    simp only [simple, Bool.and_eq_true] at hs
    simp only [execC] at h
    split at h
    · rename_i t ht
      rw [if_pos (by simp [hs.1, hs.2])] at h
      split at h
      · rename_i sa sb ha hb
        refine ⟨_, h, ?_⟩
        obtain ⟨s1, g1, q1⟩ := simple_exec a hs.1 st _ sa ha
        obtain ⟨s2, g2, q2⟩ := simple_exec b hs.2 st _ sb hb
        simp only [onlyNormal, Option.some.injEq] at g1 g2
        subst g1; subst g2
        have hlen : ∀ (wr : List Nat) (l s t' : List (AV K)) (n : Nat), s.length = l.length → t'.length = l.length → (mergeTm t wr n l s t').length = l.length := fun wr l => by
          induction l with
          | nil => intro s t' n h1 h2; simp at h1 h2; subst h1; subst h2; rfl
          | cons x l ih =>
            intro s t' n h1 h2
            cases s with
            | nil => simp at h1
            | cons y s =>
              cases t' with
              | nil => simp at h2
              | cons z t' =>
                simp only [mergeTm, List.length_cons]
                rw [ih s t' (n + 1) (by simpa using h1) (by simpa using h2)]
        have hget : ∀ (wr : List Nat) (l s t' : List (AV K)) (n i : Nat), s.length = l.length → t'.length = l.length → n + i ∉ wr → (mergeTm t wr n l s t')[i]? = l[i]? := fun wr l => by
          induction l with
          | nil => intro s t' n i h1 h2 _; simp at h1 h2; subst h1; subst h2; rfl
          | cons x l ih =>
            intro s t' n i h1 h2 hni
            cases s with
            | nil => simp at h1
            | cons y s =>
              cases t' with
              | nil => simp at h2
              | cons z t' =>
                simp only [mergeTm]
                cases i with
                | zero => simp only [Nat.add_zero] at hni; simp [hni]
                | succ i =>
                  simp only [List.getElem?_cons_succ]
                  exact ih s t' (n + 1) i (by simpa using h1) (by simpa using h2) (by rw [Nat.add_assoc, Nat.add_comm 1 i]; exact hni)
        refine ⟨rfl, hlen _ _ _ _ _ q1.len q2.len, fun i hi => ?_⟩
        exact hget _ _ _ _ 0 i q1.len q2.len (by rw [Nat.zero_add]; simpa [writes] using hi)
      · cases h
    · cases h
  | .block .., hs, R, st, k, r, h => by simp [simple] at hs
  | .loop .., hs, R, st, k, r, h => by simp [simple] at hs
  | .exit .., hs, R, st, k, r, h => by simp [simple] at hs
  | .ret, hs, R, st, k, r, h => by simp [simple] at hs
  | .scope .., hs, R, st, k, r, h => by simp [simple] at hs
  | .rangeFunc .., hs, R, st, k, r, h => by simp [simple] at hs
  | .goto .., hs, R, st, k, r, h => by simp [simple] at hs
  | .label .., hs, R, st, k, r, h => by simp [simple] at hs

end Go.V
