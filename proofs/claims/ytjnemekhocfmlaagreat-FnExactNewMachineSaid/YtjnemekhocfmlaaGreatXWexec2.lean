/-
  CODE: every way through it.
-/
import Derived.Test.YtjnemekhocfmlaaGreatXWexec
set_option linter.unusedVariables false
namespace Go.V
open Go
variable {K : Uni} {ρ ρ' : List Value} {S S' : Nat → Prop} {w w' : World} {H H' : List (Ob K)}
def LoopOk (cx : Cx K) (c : Code) (L : LoopD K) : Prop :=
  ∀ (vals : List (AV K)) (Hi : List (Ob K)) (R : Type) (k : Ex → List (AV K) → List (Ob K) → Option R) (r : R), L.run vals Hi k = some r →
    ∃ e vs Ho, k e vs Ho = some r ∧ Tr cx Hi.length (.loop c) ⟨setOuts (List.replicate L.n .any) L.ins vals, Hi, true⟩ e ⟨setOuts (List.replicate L.n .any) L.outs vs, Ho, true⟩

def LoopsOk (cx : Cx K) : Code → Prop
  | .loop c => ∀ L, cx.loop (keyOf c) = some L → LoopOk cx c L
  | .seq a b => LoopsOk cx a ∧ LoopsOk cx b
  | .cond _ a b => LoopsOk cx a ∧ LoopsOk cx b
  | .block _ c => LoopsOk cx c
  | _ => True

/-! ### merging -/

theorem merge_noOpt : ∀ (b : Bool) (x y : AV K), (merge b x y).isOpt = false := by
  intro b x y
  cases x <;> cases y <;> simp only [merge] <;> (try split) <;> rfl

theorem mergeTm_get {t : Bool} {wr : List Nat} : ∀ (l s s' : List (AV K)) (n i : Nat) (v : AV K), (mergeTm t wr n l s s')[i]? = some v →
    (n + i ∉ wr ∧ l[i]? = some v) ∨ ∃ x y, s[i]? = some x ∧ s'[i]? = some y ∧ v = merge t x y
  | [], s, s', n, i, v, h => by simp [mergeTm] at h
  | x :: l, [], s', n, i, v, h => by simp [mergeTm] at h
  | x :: l, y :: s, [], n, i, v, h => by simp [mergeTm] at h
  | x :: l, y :: s, z :: s', n, 0, v, h => by
    simp only [mergeTm, List.getElem?_cons_zero, Option.some.injEq] at h
    subst h
    by_cases hc : n ∈ wr
    · exact .inr ⟨y, z, rfl, rfl, by simp [hc]⟩
    · exact .inl ⟨hc, by simp [hc]⟩
  | x :: l, y :: s, z :: s', n, i + 1, v, h => by
    simp only [mergeTm, List.getElem?_cons_succ] at h
    rcases mergeTm_get l s s' (n + 1) i v h with ⟨h1, h2⟩ | ⟨a, b, h1, h2, h3⟩
    · exact .inl ⟨by rw [Nat.add_comm i 1, ← Nat.add_assoc]; exact h1, by simpa using h2⟩
    · exact .inr ⟨a, b, by simpa using h1, by simpa using h2, h3⟩
theorem mergeTm_len {t : Bool} {wr : List Nat} : ∀ (l s s' : List (AV K)) (n : Nat), s.length = l.length → s'.length = l.length → (mergeTm t wr n l s s').length = l.length
  | [], s, s', n, h1, h2 => by cases s <;> cases s' <;> simp [mergeTm]
  | x :: l, [], s', n, h1, h2 => by simp at h1
  | x :: l, y :: s, [], n, h1, h2 => by simp at h2
  | x :: l, y :: s, z :: s', n, h1, h2 => by
    simp only [mergeTm, List.length_cons]; rw [mergeTm_len l s s' (n + 1) (by simpa using h1) (by simpa using h2)]

theorem Slots.rep {D : Cod K} {tm : List (AV K)} {tmps : Array Value} (h : Slots D ρ S w tm tmps) (h0 : NoOpt tm) {t : Nat} {v : AV K} {x : Value} (hv : tm[t]? = some v) (hx : tmps[t]? = some x) : Rep D ρ S w v x := by
  have := h.ok t v x hv hx
  cases v with
  | opt g b y => exact absurd hv (h0 t g b y)
  | _ => exact this

theorem merge_slots {D : Cod K} {t : Bool} {wr : List Nat} {l sa sb : List (AV K)} {tmps : Array Value} (hab : NoOpt (cond t sa sb)) (la : sa.length = l.length) (lb : sb.length = l.length) (ra : ∀ t, t ∉ wr → sa[t]? = l[t]?) (rb : ∀ t, t ∉ wr → sb[t]? = l[t]?)
    (h : Slots D ρ S w (cond t sa sb) tmps) : Slots D ρ S w (mergeTm t wr 0 l sa sb) tmps := by
  refine ⟨by rw [mergeTm_len _ _ _ _ la lb, ← h.len]; cases t <;> simp [la, lb], fun i v x hv hx => ?_⟩
  rcases mergeTm_get l sa sb 0 i v hv with ⟨h1, h2⟩ | ⟨a, b, h1, h2, rfl⟩
  · rw [Nat.zero_add] at h1
    refine .of_rep ?_
    cases t
    · exact h.rep hab (by rw [cond_false, rb i h1]; exact h2) hx
    · exact h.rep hab (by rw [cond_true, ra i h1]; exact h2) hx
  · refine .of_rep (merge_sound (fun e => ?_) fun e => ?_)
    · subst e; exact h.rep hab h1 hx
    · subst e; exact h.rep hab h2 hx
theorem merge_noOpts {t : Bool} {wr : List Nat} {l sa sb : List (AV K)} (h0 : NoOpt l) : NoOpt (mergeTm t wr 0 l sa sb) := fun i g b v e => by
  rcases mergeTm_get l sa sb 0 i _ e with ⟨-, h2⟩ | ⟨x, y, -, -, h3⟩
  · exact h0 i g b v h2
  · have := merge_noOpt t x y
    rw [← h3] at this; simp [AV.isOpt] at this

/-! ### the temporaries of a loop -/

theorem setOuts_len : ∀ (ds : List Nat) (vs tm : List (AV K)), (setOuts tm ds vs).length = tm.length
  | [], vs, tm => by simp [setOuts]
  | d :: r, [], tm => by simp [setOuts]
  | d :: r, v :: vs, tm => by simp only [setOuts]; rw [setOuts_len r vs]; simp

theorem setOuts_get : ∀ (ds : List Nat) (vs tm : List (AV K)) (t : Nat) (v : AV K), (setOuts tm ds vs)[t]? = some v → tm[t]? = some v ∨ ∃ i : Nat, ds[i]? = some t ∧ vs[i]? = some v
  | [], vs, tm, t, v, h => .inl (by simpa [setOuts] using h)
  | d :: r, [], tm, t, v, h => .inl (by simpa [setOuts] using h)
  | d :: r, x :: vs, tm, t, v, h => by
    simp only [setOuts] at h
    rcases setOuts_get r vs _ t v h with h1 | ⟨i, h1, h2⟩
    · rcases get_set h1 with ⟨rfl, rfl, -⟩ | ⟨-, h1⟩
      · exact .inr ⟨0, rfl, rfl⟩
      · exact .inl h1
    · exact .inr ⟨i + 1, by simpa using h1, by simpa using h2⟩

theorem setOuts_rel {p : AV K → AV K → Prop} : ∀ (ds : List Nat) (vs vs' tm tm' : List (AV K)), vs.length = vs'.length → tm.length = tm'.length → (∀ (i : Nat) v v', vs[i]? = some v → vs'[i]? = some v' → p v v') → (∀ (t : Nat) v v', tm[t]? = some v → tm'[t]? = some v' → p v v') →
    ∀ (t : Nat) v v', (setOuts tm ds vs)[t]? = some v → (setOuts tm' ds vs')[t]? = some v' → p v v'
  | [], vs, vs', tm, tm', h1, h2, h3, h4, t, v, v', g1, g2 => h4 t v v' (by simpa [setOuts] using g1) (by simpa [setOuts] using g2)
  | d :: r, [], [], tm, tm', h1, h2, h3, h4, t, v, v', g1, g2 => h4 t v v' (by simpa [setOuts] using g1) (by simpa [setOuts] using g2)
  | d :: r, [], _ :: _, tm, tm', h1, h2, h3, h4, t, v, v', g1, g2 => by simp at h1
  | d :: r, _ :: _, [], tm, tm', h1, h2, h3, h4, t, v, v', g1, g2 => by simp at h1
  | d :: r, x :: vs, x' :: vs', tm, tm', h1, h2, h3, h4, t, v, v', g1, g2 => by
    simp only [setOuts] at g1 g2
    refine setOuts_rel r vs vs' _ _ (by simpa using h1) (by simpa using h2) (fun i a b ha hb => h3 (i + 1) a b (by simpa using ha) (by simpa using hb)) (fun k a b ha hb => ?_) t v v' g1 g2
    rcases get_set ha with ⟨rfl, rfl, -⟩ | ⟨hne, ha⟩
    · rcases get_set hb with ⟨-, rfl, -⟩ | ⟨hne, -⟩
      · exact h3 0 _ _ rfl rfl
      · exact absurd rfl hne
    · rcases get_set hb with ⟨rfl, -⟩ | ⟨-, hb⟩
      · exact absurd rfl hne
      · exact h4 k a b ha hb

theorem reHs_get {f : Nat → Option Nat} : ∀ (l l' : List (AV K)), reHs f l = some l' → l'.length = l.length ∧ ∀ (i : Nat) v', l'[i]? = some v' → ∃ v, l[i]? = some v ∧ reH f v = some v'
  | [], l', h => by simp [reHs] at h; subst h; simp
  | x :: l, l', h => by
    simp only [reHs] at h
    split at h
    · rename_i y m h1 h2
      simp only [Option.some.injEq] at h; subst h
      obtain ⟨g1, g2⟩ := reHs_get l m h2
      refine ⟨by simp [g1], fun i v' hi => ?_⟩
      cases i with
      | zero => simp at hi; subst hi; exact ⟨x, rfl, h1⟩
      | succ i => simp at hi; obtain ⟨v, q1, q2⟩ := g2 i v' hi; exact ⟨v, by simpa using q1, q2⟩
    · cases h
theorem reH_noOpt {f : Nat → Option Nat} {v v' : AV K} (h : reH f v = some v') : v'.isOpt = false := by
  cases v <;> simp only [reH, Option.map_eq_some_iff, Option.some.injEq] at h <;> first
    | (subst h; rfl)
    | (obtain ⟨a, -, rfl⟩ := h; rfl)
    | cases h
theorem setOuts_noOpt {n : Nat} {ds : List Nat} {l l' : List (AV K)} {f : Nat → Option Nat} (h : reHs f l = some l') : NoOpt (setOuts (List.replicate n .any) ds l') := fun t g b v e => by
  rcases setOuts_get ds l' _ t _ e with h1 | ⟨i, -, h2⟩
  · rw [List.getElem?_replicate] at h1; split at h1 <;> cases h1
  · obtain ⟨v0, -, q⟩ := (reHs_get l l' h).2 i _ h2
    have := reH_noOpt q; simp [AV.isOpt] at this

theorem replicate_slots {D : Cod K} {n : Nat} {ds : List Nat} {vs : List (AV K)} {tmps : Array Value} (hn : tmps.size = n) (h : ∀ (i t : Nat) v x, ds[i]? = some t → vs[i]? = some v → tmps[t]? = some x → Rep D ρ S w v x) : Slots D ρ S w (setOuts (List.replicate n .any) ds vs) tmps :=
  ⟨by rw [setOuts_len]; simp [hn], fun t v x hv hx => .of_rep (by
    rcases setOuts_get ds vs _ t v hv with h1 | ⟨i, h1, h2⟩
    · rw [List.getElem?_replicate] at h1
      split at h1
      · simp at h1; subst h1; exact .any x
      · cases h1
    · exact h i t v x h1 h2 hx)⟩

theorem loop_tr {cx : Cx K} (hD : CodOk cx.D) {c : Code} {L : LoopD K} {n0 : Nat} {st st' : St K} {m : List Nat} {vals vs : List (AV K)} {Hi Ho : List (Ob K)} {e : Ex} (hn : st.tm.length = L.n) (h0 : NoOpt st.tm)
    (hin : inLoop st.H (L.ins.map fun t => st.tm.getD t .any) = some (m, vals, Hi)) (hout : outLoop L m st vs Ho = some st')
    (htr : Tr cx Hi.length (.loop c) ⟨setOuts (List.replicate L.n .any) L.ins vals, Hi, true⟩ e ⟨setOuts (List.replicate L.n .any) L.outs vs, Ho, true⟩) : NoOpt st'.tm ∧ Tr cx n0 (.loop c) st e st' := by
  unfold inLoop at hin
  split at hin
  · rename_i hp
    split at hin
    · rename_i vals' Hi' hv hH
      simp only [Option.some.injEq, Prod.mk.injEq] at hin
      obtain ⟨rfl, rfl, rfl⟩ := hin
      unfold outLoop at hout
      split at hout
      · rename_i vs' Ho' hvs hHo
        split at hout
        · rename_i hle
          simp only [Option.some.injEq] at hout; subst hout
          refine ⟨setOuts_noOpt hvs, fun ρ S a w hn0 hsat => ?_⟩
          obtain ⟨s1, s2, s3, s4⟩ := sub_heap hD hsat.heap hp hH
          have hrs := ρsub_get (ρ := ρ) (m := reach st.H 64 (handss (L.ins.map fun t => st.tm.getD t .any)) []) (fun i h hi => by rw [hsat.heap.len]; exact (passOk_spec _ hp).1 i h hi)
          have hsize : a.tmps.size = L.n := by rw [← hn, hsat.slots.len]
          have hsat1 : Sat cx (ρsub ρ (reach st.H 64 (handss (L.ins.map fun t => st.tm.getD t .any)) [])) S a w ⟨setOuts (List.replicate L.n .any) L.ins vals', Hi', true⟩ := ⟨s1, replicate_slots hsize fun i t v x g1 g2 g3 => by
            obtain ⟨v0, q1, q2⟩ := (reHs_get _ _ hv).2 i v g2
            simp only [List.getElem?_map, g1, Option.map_some, Option.some.injEq] at q1
            subst q1
            refine reH_sound hD s4 _ v x q2 ?_
            rw [List.getD_eq_getElem?_getD]
            cases hg : st.tm[t]? with
            | none => exact .any x
            | some v1 => exact hsat.slots.rep h0 hg g3, hsat.defers⟩
          refine wp_mono (htr _ S a w (Nat.le_refl _) hsat1) fun e' a' w' => ?_
          rintro ⟨he, hle', ρo, So, hso, hst⟩
          obtain ⟨j1, j2, j3⟩ := join hD hsat.heap hp hrs s2 s3 s1 hso.heap hst hle' hHo
          refine ⟨he, ?_, _, So, ⟨j1, ?_, hso.defers⟩, j2.weaken hn0⟩
          · have := j2.grow hsat.heap j1 (Nat.le_refl _)
            dsimp only at this ⊢; omega
          · refine ⟨by rw [setOuts_len]; have := hso.slots.len; rw [setOuts_len] at this; exact this, fun t v x hv' hx => ?_⟩
            have hlt : t < (setOuts (List.replicate L.n .any) L.outs vs).length := by
              have := (List.getElem?_eq_some_iff.1 hv').1
              rw [setOuts_len] at this ⊢; exact this
            have hg := List.getElem?_eq_getElem hlt
            have hrep : SlotOk cx.D ρo So w' a'.tmps _ x := hso.slots.ok t _ x hg hx
            have hrel := setOuts_rel (p := fun v v' => v' = .any ∨ reH (fun h => (backMap (reach st.H 64 (handss (L.ins.map fun t => st.tm.getD t .any)) []) st.H.length Ho.length)[h]?) v = some v') L.outs vs vs' (List.replicate L.n .any) (List.replicate L.n .any)
              (reHs_get _ _ hvs).1.symm rfl (fun i v v' h1 h2 => by
                obtain ⟨v0, q1, q2⟩ := (reHs_get _ _ hvs).2 i v' h2
                rw [h1] at q1; simp at q1; subst q1; exact .inr q2) (fun t v v' h1 h2 => by
                rw [List.getElem?_replicate] at h2; split at h2
                · simp at h2; exact .inl h2.symm
                · cases h2) t _ v hg hv'
            rcases hrel with rfl | hrel
            · exact .of_rep (.any x)
            · refine .of_rep (reH_sound hD j3 _ v x hrel ?_)
              generalize (setOuts (List.replicate L.n .any) L.outs vs)[t] = y at hrep hrel
              cases y with
              | opt => simp [reH] at hrel
              | _ => exact hrep
        · cases hout
      · cases hout
    · cases hin
  · cases hin

/-! ### all code -/

theorem execC_sound {cx : Cx K} (hD : CodOk cx.D) (hc : CallOk cx) (hm : cx.P.follows .mixedOrders = true) : ∀ (c : Code), LoopsOk cx c → ∀ {R : Type} (st : St K) (k : Ex → St K → Option R) (r : R), execC cx c st k = some r →
    ∃ e st', k e st' = some r ∧ (st'.ok = true → st.ok = true) ∧ (st'.ok = true → NoOpt st.tm → NoOpt st'.tm ∧ ∀ n0, Tr cx n0 c st e st')
  | .skip, _, R, st, k, r, h => ⟨.normal, st, h, id, fun _ h0 => ⟨h0, fun n0 ρ S a w hn hsat => wp_skip ⟨rfl, hn, ρ, S, hsat, Step.refl⟩⟩⟩
  | .exit id, _, R, st, k, r, h => ⟨.exit id, st, h, fun h => h, fun _ h0 => ⟨h0, fun n0 ρ S a w hn hsat => wp_exit ⟨rfl, hn, ρ, S, hsat, Step.refl⟩⟩⟩
  | .ret, _, R, st, k, r, h => ⟨.ret, st, h, fun h => h, fun _ h0 => ⟨h0, fun n0 ρ S a w hn hsat => wp_ret ⟨rfl, hn, ρ, S, hsat, Step.refl⟩⟩⟩
  | .region id ops draw, _, R, st, k, r, h => by
    simp only [execC] at h
    split at h
    · rename_i st' hr
      have := fun n0 => region_tr (id := id) (n0 := n0) hD hc hm hr
      exact ⟨.normal, st', h, (this 0).1, fun hok h0 => ⟨((this 0).2 hok h0).1, fun n0 => ((this n0).2 hok h0).2⟩⟩
    · split at h
      · rename_i b s1 s2 hsp
        obtain ⟨t, h1, h2⟩ := splitRun_spec _ hsp
        have key : ∀ (x : Bool) (s' : St K), runRegion { cx with gs := some (t, x) } ops.toList draw st = some s' → k .normal s' = some r →
            ∃ e st', k e st' = some r ∧ (st'.ok = true → st.ok = true) ∧ (st'.ok = true → NoOpt st.tm → NoOpt st'.tm ∧ ∀ n0, Tr cx n0 (.region id ops draw) st e st') := fun x s' hr hk => by
          have := fun n0 => region_tr (cx := { cx with gs := some (t, x) }) (id := id) (n0 := n0) hD hc hm hr
          exact ⟨.normal, s', hk, (this 0).1, fun hok h0 => ⟨((this 0).2 hok h0).1, fun n0 => (((this n0).2 hok h0).2).gs⟩⟩
        cases b with
        | true => exact key true s1 h1 h
        | false => exact key false s2 h2 h
      · cases h
  | .seq a b, hl, R, st, k, r, h => by
    simp only [execC] at h
    obtain ⟨e1, s1, h1, ok1, t1⟩ := execC_sound hD hc hm a hl.1 st _ r h
    cases e1 with
    | normal =>
      obtain ⟨e2, s2, h2, ok2, t2⟩ := execC_sound hD hc hm b hl.2 s1 k r h1
      refine ⟨e2, s2, h2, fun hk => ok1 (ok2 hk), fun hk h0 => ?_⟩
      obtain ⟨n1, q1⟩ := t1 (ok2 hk) h0
      obtain ⟨n2, q2⟩ := t2 hk n1
      refine ⟨n2, fun n0 ρ S a' w hn hsat => wp_seq (wp_mono (q1 n0 ρ S a' w hn hsat) ?_)⟩
      rintro e a2 w2 ⟨rfl, hn1, ρ1, S1, hsat1, hst1⟩
      refine wp_mono (q2 n0 ρ1 S1 a2 w2 hn1 hsat1) ?_
      rintro e a3 w3 ⟨rfl, hn2, ρ2, S2, hsat2, hst2⟩
      exact ⟨rfl, hn2, ρ2, S2, hsat2, hst1.trans hst2⟩
    | exit id =>
      refine ⟨.exit id, s1, h1, ok1, fun hk h0 => ⟨(t1 hk h0).1, fun n0 ρ S a' w hn hsat => wp_seq (wp_mono ((t1 hk h0).2 n0 ρ S a' w hn hsat) ?_)⟩⟩
      rintro e a2 w2 ⟨rfl, q⟩
      exact ⟨rfl, q⟩
    | ret =>
      refine ⟨.ret, s1, h1, ok1, fun hk h0 => ⟨(t1 hk h0).1, fun n0 ρ S a' w hn hsat => wp_seq (wp_mono ((t1 hk h0).2 n0 ρ S a' w hn hsat) ?_)⟩⟩
      rintro e a2 w2 ⟨rfl, q⟩
      exact ⟨rfl, q⟩
  | .cond c a b, hl, R, st, k, r, h => by
    simp only [execC] at h
    split at h
    · rename_i t ht
      have hev : ∀ {ρ S a' w}, Sat cx ρ S a' w st → a'.eval c = .bool t := fun {ρ S a' w} hsat => by
        have := evS_sound hsat.slots (gs := []) (fun p hp => by simp at hp) c
        rw [ht] at this
        generalize a'.eval c = y at this
        cases this; rfl
      split at h
      · rename_i hs
        simp only [Bool.and_eq_true] at hs
        split at h
        · rename_i sa sb ha hb
          obtain ⟨s1, g1, q1⟩ := simple_exec a hs.1 st _ sa ha
          obtain ⟨s2, g2, q2⟩ := simple_exec b hs.2 st _ sb hb
          simp only [onlyNormal, Option.some.injEq] at g1 g2
          subst g1; subst g2
          obtain ⟨e1, s1', c1, ok1, t1⟩ := execC_sound hD hc hm a hl.1 st _ s1 ha
          obtain ⟨e2, s2', c2, ok2, t2⟩ := execC_sound hD hc hm b hl.2 st _ s2 hb
          cases e1 <;> simp only [onlyNormal, Option.some.injEq] at c1 <;> try cases c1
          cases e2 <;> simp only [onlyNormal, Option.some.injEq] at c2 <;> try cases c2
          have hks : ∀ {x y : Bool}, ((x || !t) && (y || t)) = true → (t = true → x = true) ∧ (t = false → y = true) := fun {x y} hk => by
            cases t <;> simpa using hk
          refine ⟨.normal, _, h, fun hk => ?_, fun hk h0 => ⟨merge_noOpts h0, fun n0 ρ S a' w hn hsat => wp_cond (hev hsat) ?_⟩⟩
          · cases ht' : t
            · exact ok2 ((hks hk).2 ht')
            · exact ok1 ((hks hk).1 ht')
          · have fin : ∀ e' a' w', (e' = Ex.normal.toExit ∧ n0 ≤ (cond t s1 s2).H.length ∧ ∃ ρ' S', Sat cx ρ' S' a' w' (cond t s1 s2) ∧ Step cx.D n0 ρ S st.H w ρ' S' (cond t s1 s2).H w') → NoOpt (cond t s1.tm s2.tm) →
                (e' = Ex.normal.toExit ∧ n0 ≤ st.H.length ∧ ∃ ρ' S', Sat cx ρ' S' a' w' ⟨mergeTm t (writes a ++ writes b) 0 st.tm s1.tm s2.tm, st.H, (s1.ok || !t) && (s2.ok || t)⟩ ∧ Step cx.D n0 ρ S st.H w ρ' S' st.H w') := by
              rintro e' a2 w2 ⟨he, hn1, ρ1, S1, hsat1, hst1⟩ hno
              have hH : (cond t s1 s2).H = st.H := by cases t; exact q2.H; exact q1.H
              rw [hH] at hn1 hst1
              refine ⟨he, hn1, ρ1, S1, ⟨by have := hsat1.heap; rw [hH] at this; exact this, ?_, hsat1.defers⟩, hst1⟩
              exact merge_slots hno q1.len q2.len (fun i hi => q1.rest i fun h' => hi (by simp [h'])) (fun i hi => q2.rest i fun h' => hi (by simp [h'])) (by have := hsat1.slots; cases t <;> exact this)
            cases ht' : t <;> rw [ht'] at fin
            · obtain ⟨n2, r2⟩ := t2 ((hks hk).2 ht') h0
              exact wp_mono (r2 n0 ρ S a' w hn hsat) fun e' a2 w2 q => fin e' a2 w2 q n2
            · obtain ⟨n1, r1⟩ := t1 ((hks hk).1 ht') h0
              exact wp_mono (r1 n0 ρ S a' w hn hsat) fun e' a2 w2 q => fin e' a2 w2 q n1
        · cases h
      · cases t
        · obtain ⟨e, s, h1, ok1, t1⟩ := execC_sound hD hc hm b hl.2 st k r h
          exact ⟨e, s, h1, ok1, fun hk h0 => ⟨(t1 hk h0).1, fun n0 ρ S a' w hn hsat => wp_cond (hev hsat) ((t1 hk h0).2 n0 ρ S a' w hn hsat)⟩⟩
        · obtain ⟨e, s, h1, ok1, t1⟩ := execC_sound hD hc hm a hl.1 st k r h
          exact ⟨e, s, h1, ok1, fun hk h0 => ⟨(t1 hk h0).1, fun n0 ρ S a' w hn hsat => wp_cond (hev hsat) ((t1 hk h0).2 n0 ρ S a' w hn hsat)⟩⟩
    · cases h
  | .block id c, hl, R, st, k, r, h => by
    simp only [execC] at h
    obtain ⟨e1, s1, h1, ok1, t1⟩ := execC_sound hD hc hm c hl st _ r h
    cases e1 with
    | normal =>
      refine ⟨.normal, s1, h1, ok1, fun hk h0 => ⟨(t1 hk h0).1, fun n0 ρ S a' w hn hsat => wp_block (wp_mono ((t1 hk h0).2 n0 ρ S a' w hn hsat) ?_)⟩⟩
      rintro e a2 w2 ⟨rfl, q⟩
      exact ⟨rfl, q⟩
    | ret =>
      refine ⟨.ret, s1, h1, ok1, fun hk h0 => ⟨(t1 hk h0).1, fun n0 ρ S a' w hn hsat => wp_block (wp_mono ((t1 hk h0).2 n0 ρ S a' w hn hsat) ?_)⟩⟩
      rintro e a2 w2 ⟨rfl, q⟩
      exact ⟨rfl, q⟩
    | exit i =>
      dsimp only at h1
      split at h1
      · rename_i hid
        refine ⟨.normal, s1, h1, ok1, fun hk h0 => ⟨(t1 hk h0).1, fun n0 ρ S a' w hn hsat => wp_block (wp_mono ((t1 hk h0).2 n0 ρ S a' w hn hsat) ?_)⟩⟩
        rintro e a2 w2 ⟨rfl, q⟩
        subst hid
        show (if i = i then _ else _)
        rw [if_pos rfl]
        exact ⟨rfl, q⟩
      · rename_i hid
        refine ⟨.exit i, s1, h1, ok1, fun hk h0 => ⟨(t1 hk h0).1, fun n0 ρ S a' w hn hsat => wp_block (wp_mono ((t1 hk h0).2 n0 ρ S a' w hn hsat) ?_)⟩⟩
        rintro e a2 w2 ⟨rfl, q⟩
        show (if i = id then _ else _)
        rw [if_neg hid]
        exact ⟨rfl, q⟩
  | .loop c, hl, R, st, k, r, h => by
    simp only [execC] at h
    split at h
    · rename_i L hL
      split at h
      · rename_i hn
        split at h
        · rename_i m vals Hi hin
          obtain ⟨e, vs, Ho, h1, htr⟩ := hl L hL vals Hi R _ r h
          split at h1
          · rename_i st' hout
            refine ⟨e, st', h1, ?_, fun hk h0 => ?_⟩
            · unfold outLoop at hout
              split at hout
              · split at hout
                · simp only [Option.some.injEq] at hout; subst hout; exact id
                · cases hout
              · cases hout
            · exact ⟨(loop_tr (n0 := 0) hD hn h0 hin hout htr).1, fun n0 => (loop_tr (n0 := n0) hD hn h0 hin hout htr).2⟩
          · cases h1
        · cases h
      · cases h
    · cases h
  | .scope .., _, R, st, k, r, h => by simp [execC] at h
  | .rangeFunc .., _, R, st, k, r, h => by simp [execC] at h
  | .goto .., _, R, st, k, r, h => by simp [execC] at h
  | .label .., _, R, st, k, r, h => by simp [execC] at h
  | .refuse .., _, R, st, k, r, h => by simp [execC] at h

end Go.V
