/-
  A FUNCTION, A LOOP, by a plain definition that they are shown to be equal to.
-/
import Derived.Test.YtjnemekhocfmlaaGreatXWshape
set_option linter.unusedVariables false
namespace Go.V
open Go
variable {K : Uni} {ρ ρ' : List Value} {S S' : Nat → Prop} {w w' : World} {H H' : List (Ob K)}

/-! ### functions -/
def thawV (dp : K.U → Bool) (H : List (Ob K)) (cs : List (List (Option K.U))) : AV K → AV K × List (Ob K)
  | .tup l => (.tup (thawR dp H cs l).1, (thawR dp H cs l).2)
  | v => ((thawR dp H cs [v]).1.headD v, (thawR dp H cs [v]).2)

def forgets : List Bool → List (AV K) → List (AV K)
  | [], vs => vs
  | _ :: _, [] => []
  | true :: r, _ :: vs => .any :: forgets r vs
  | false :: r, v :: vs => v :: forgets r vs
def forgetR : List Bool → AV K → AV K
  | [], v => v
  | l, .tup vs => .tup (forgets l vs)
  | true :: _, _ => .any
  | false :: _, v => v
theorem forgets_sound {D : Cod K} : ∀ (l : List Bool) (vs : List (AV K)) (us : List Value), Reps D ρ S w vs us → Reps D ρ S w (forgets l vs) us
  | [], vs, us, h => by simpa only [forgets] using h
  | _ :: _, [], us, h => by simpa only [forgets] using h
  | b :: r, v :: vs, us, h => by
    obtain ⟨u, t, rfl, h1, h2⟩ := h.uncons
    cases b
    · exact .cons h1 (forgets_sound r vs t h2)
    · exact .cons (.any u) (forgets_sound r vs t h2)
theorem forgetR_sound {D : Cod K} (l : List Bool) (v : AV K) (u : Value) (h : Rep D ρ S w v u) : Rep D ρ S w (forgetR l v) u := by
  unfold forgetR
  split
  · exact h
  · cases h with
    | tup hl hh =>
      have := forgets_sound l _ _ ⟨hl, hh⟩
      exact .tup this.1 this.2
  · exact .any _
  · exact h
def endD (cx : Cx K) (fz : Bool) (fn : Func) (n0 : Nat) {R : Type} (fin : AV K → List (Ob K) → Option R) (e : Ex) (st : St K) : Option R :=
  match e with
  | .exit _ => none
  | _ => match resV cx fn st with
    | some v0 => let v := forgetR cx.rany v0
      cond st.ok (cond fz (match packV cx.mv n0 (unfro (frzAll st.H (hands v)) v) (frzAll st.H (hands v)) with
        | some (v', H') => fin v' H'
        | none => none) (match packV cx.mv n0 (thawV cx.deep st.H cx.rsl v).1 (thawV cx.deep st.H cx.rsl v).2 with
        | some (v', H') => fin v' H'
        | none => none)) none
    | none => none

def runD (cx : Cx K) (fz : Bool) (fn : Func) (args : List (AV K)) (H : List (Ob K)) {R : Type} (fin : AV K → List (Ob K) → Option R) : Option R :=
  match fn.body with
  | some c => execC cx c ⟨args ++ List.replicate (fn.ntmps - args.length) .any, H, true⟩ (endD cx fz fn H.length fin)
  | none => none
structure FnAt (P : Program) (f : FuncId) (fn : Func) : Prop where
  get : P.funcs[f]? = some fn
  name : (fn.name == "runtime.NumGoroutine") = false

theorem thawR_sound {D : Cod K} (dp : K.U → Bool) : ∀ (css : List (List (Option K.U))) (l : List (AV K)) (H : List (Ob K)) (ρ : List Value) (vs : List Value), HeapSat D ρ S w H → Reps D ρ S w l vs → ThawOk D S w H ρ vs (thawR dp H css l)
  | [], l, H, ρ, vs, hs, hr => ⟨ρ, by simpa [thawR] using hs, by simpa [thawR] using hr, by simpa [thawR] using Step.refl, fun _ _ h => h, by simp [thawR], fun _ _ h => by simpa [thawR] using h⟩
  | cs :: css, [], H, ρ, vs, hs, hr => ⟨ρ, by simpa [thawR] using hs, by simpa [thawR] using hr, by simpa [thawR] using Step.refl, fun _ _ h => h, by simp [thawR], fun _ _ h => by simpa [thawR] using h⟩
  | cs :: css, v :: r, H, ρ, vs, hs, hr => by
    obtain ⟨u, t, rfl, h1, h2⟩ := hr.uncons
    have fin : ∀ (v' : AV K) (p : List (AV K) × List (Ob K)) (us : List Value), (∀ ρ', Reps D ρ' S w p.1 us → Rep D ρ' S w v' u) → ThawOk D S w H ρ us p → ThawOk D S w H ρ (u :: t) (v' :: (thawR dp p.2 css r).1, (thawR dp p.2 css r).2) := fun v' p us hv hp => by
      obtain ⟨ρ1, g1, g2, g3, g4, g5, g6⟩ := hp
      obtain ⟨ρ2, k1, k2, k3, k4, k5, k6⟩ := thawR_sound dp css r p.2 ρ1 t g1 (h2.mono (fun _ h => h) (fun _ _ => rfl) g4)
      exact ⟨ρ2, k1, .cons ((hv ρ1 g2).mono (fun _ h => h) (fun _ _ => rfl) k4) k2, g3.trans (k3.weaken g5), fun h r hr => k4 h r (g4 h r hr), Nat.le_trans g5 k5, fun h o ho => k6 h o (g6 h o ho)⟩
    have one : ∀ v, Rep D ρ S w v u → thawR dp H (cs :: css) (v :: r) = ((thaw dp H cs [v]).1.headD v :: (thawR dp (thaw dp H cs [v]).2 css r).1, (thawR dp (thaw dp H cs [v]).2 css r).2) → ThawOk D S w H ρ (u :: t) (thawR dp H (cs :: css) (v :: r)) := fun v h1 e => by
      rw [e]
      refine fin _ _ [u] (fun ρ' hr' => ?_) (thaw_sound dp cs [v] H ρ [u] hs (.cons h1 .nil))
      generalize hq : (thaw dp H cs [v]).1 = q at hr'
      cases q with
      | nil => have := hr'.1; simp at this
      | cons x y => exact hr'.head
    cases v with
    | agg l =>
      cases h1 with
      | agg hl hh =>
        have e : thawR dp H (cs :: css) (.agg l :: r) = (.agg (thaw dp H cs l).1 :: (thawR dp (thaw dp H cs l).2 css r).1, (thawR dp (thaw dp H cs l).2 css r).2) := rfl
        rw [e]
        exact fin _ _ _ (fun ρ' hr' => .agg hr'.1 hr'.2) (thaw_sound dp cs l H ρ _ hs ⟨hl, hh⟩)
    | _ => exact one _ h1 rfl

theorem thawV_sound {D : Cod K} (dp : K.U → Bool) (cs : List (List (Option K.U))) (v : AV K) (hs : HeapSat D ρ S w H) {u : Value} (hr : Rep D ρ S w v u) :
    ∃ ρ', HeapSat D ρ' S w (thawV dp H cs v).2 ∧ Rep D ρ' S w (thawV dp H cs v).1 u ∧ Step D H.length ρ S H w ρ' S (thawV dp H cs v).2 w ∧ H.length ≤ (thawV dp H cs v).2.length := by
  have one : ∀ v, Rep D ρ S w v u → thawV dp H cs v = ((thawR dp H cs [v]).1.headD v, (thawR dp H cs [v]).2) → ∃ ρ', HeapSat D ρ' S w (thawV dp H cs v).2 ∧ Rep D ρ' S w (thawV dp H cs v).1 u ∧ Step D H.length ρ S H w ρ' S (thawV dp H cs v).2 w ∧ H.length ≤ (thawV dp H cs v).2.length := fun v hr e => by
    rw [e]
    obtain ⟨ρ', g1, g2, g3, g4, g5, g6⟩ := thawR_sound dp cs [v] H ρ [u] hs (.cons hr .nil)
    refine ⟨ρ', g1, ?_, g3, g5⟩
    generalize hq : (thawR dp H cs [v]).1 = q at g2
    cases q with
    | nil => have := g2.1; simp at this
    | cons x y => exact g2.head
  cases v with
  | tup l =>
    cases hr with
    | tup hl hh =>
      obtain ⟨ρ', g1, g2, g3, g4, g5, g6⟩ := thawR_sound dp cs l H ρ _ hs ⟨hl, hh⟩
      exact ⟨ρ', g1, .tup g2.1 g2.2, g3, g5⟩
  | _ => exact one _ hr rfl

theorem endD_sound {cx : Cx K} (hD : CodOk cx.D) {fz : Bool} {fn : Func} {n0 : Nat} {R : Type} {fin : AV K → List (Ob K) → Option R} {e : Ex} {st : St K} {r : R} (h : endD cx fz fn n0 fin e st = some r) :
    st.ok = true ∧ (∀ i, e ≠ .exit i) ∧ ∃ v v' H', resV cx fn st = some v ∧ fin v' H' = some r ∧ ∀ ρ S w, n0 ≤ st.H.length → HeapSat cx.D ρ S w st.H → ∀ u, Rep cx.D ρ S w v u → ∃ ρ' S', HeapSat cx.D ρ' S' w H' ∧ Rep cx.D ρ' S' w v' u ∧ Step cx.D n0 ρ S st.H w ρ' S' H' w := by
  have key : ∀ (v0 : AV K) (H0 : List (Ob K)) v' H', packV cx.mv n0 v0 H0 = some (v', H') → ∀ ρ S w, n0 ≤ H0.length → HeapSat cx.D ρ S w H0 → ∀ u, Rep cx.D ρ S w v0 u → ∃ ρ', HeapSat cx.D ρ' S w H' ∧ Rep cx.D ρ' S w v' u ∧ Step cx.D n0 ρ S H0 w ρ' S H' w := fun v0 H0 v' H' hp ρ S w hn hs u hr => by
    unfold packV reVal at hp
    split at hp
    · rename_i hk
      simp only [Bool.and_eq_true, decide_eq_true_eq] at hk
      split at hp
      · rename_i v'' H1 hv' hH'
        simp only [Option.some.injEq, Prod.mk.injEq] at hp
        obtain ⟨rfl, rfl⟩ := hp
        obtain ⟨s1, s2, s3, s4⟩ := src_heap hD hs hn hk.1 hk.2 hH'
        exact ⟨_, s1, reH_sound hD s3 _ _ u hv' hr, s2⟩
      · cases hp
    · cases hp
  unfold endD at h
  split at h
  · cases h
  · rename_i hne
    split at h
    · rename_i v0 hv0
      dsimp only at h
      generalize hv : forgetR cx.rany v0 = v at h
      have fgt : ∀ {ρ S w} {u : Value}, Rep cx.D ρ S w v0 u → Rep cx.D ρ S w v u := fun hr => by rw [← hv]; exact forgetR_sound _ _ _ hr
      cases hok : st.ok with
      | false => rw [hok] at h; cases h
      | true =>
        rw [hok] at h
        simp only [cond_true] at h
        refine ⟨rfl, hne, ?_⟩
        cases fz with
        | false =>
          simp only [cond_false] at h
          split at h
          · rename_i v' H' hp
            exact ⟨v0, v', H', hv0, h, fun ρ S w hn hs u hr0 => by
              have hr := fgt hr0
              obtain ⟨ρ1, t1, t2, t3, t4⟩ := thawV_sound cx.deep cx.rsl v hs hr
              obtain ⟨ρ', a, b, c⟩ := key _ _ _ _ hp ρ1 S w (Nat.le_trans hn t4) t1 u t2
              exact ⟨ρ', S, a, b, (t3.weaken hn).trans c⟩⟩
          · cases h
        | true =>
          simp only [cond_true] at h
          split at h
          · rename_i v' H' hp
            exact ⟨v0, v', H', hv0, h, fun ρ S w hn hs u hr0 => by
              have hr := fgt hr0
              obtain ⟨S1, g1, g2, g3⟩ := frzAll_sat (n0 := n0) (hands v) hs
              obtain ⟨ρ', a, b, c⟩ := key _ _ _ _ hp ρ S1 w (by omega) g1 u (unfro_sound g1 _ _ (hr.mono g2.s1 (fun _ _ => rfl) (fun _ _ h => h)))
              exact ⟨ρ', S1, a, b, g2.trans c⟩⟩
          · cases h
    · cases h

theorem runD_sound {cx : Cx K} (hD : CodOk cx.D) (hc : CallOk cx) (hm : cx.P.follows .mixedOrders = true) {fz : Bool} {f : FuncId} {fn : Func} (hf : FnAt cx.P f fn) (hl : ∀ c, fn.body = some c → LoopsOk cx c)
    {args : List (AV K)} {R : Type} {fin : AV K → List (Ob K) → Option R} {r : R} (h : runD cx fz fn args H fin = some r) : ∃ v H', fin v H' = some r ∧ RC cx.D cx.P f args H v H' := by
  unfold runD at h
  split at h
  · rename_i c hb
    obtain ⟨e, st, h1, -, h3⟩ := execC_sound hD hc hm c (hl c hb) _ _ _ h
    obtain ⟨hok, hne, v, v', H', hv, hr, hfin⟩ := endD_sound hD h1
    refine ⟨v', H', hr, ⟨fn, hf.get, hf.name, by rw [hb]; rfl⟩, fun ρ S w vals hs ha => ?_⟩
    have h0 : NoOpt (args ++ List.replicate (fn.ntmps - args.length) (AV.any : AV K)) := fun t g b y e => by
      rcases Nat.lt_or_ge t args.length with hlt | hge
      · rw [List.getElem?_append_left hlt] at e
        obtain ⟨x, -, hx⟩ := ha.get e
        cases hx
      · rw [List.getElem?_append_right hge, List.getElem?_replicate] at e
        split at e <;> cases e
    obtain ⟨n1, htr⟩ := h3 hok h0
    refine calls_of_wp hf.get hb ?_
    have hsat : Sat cx ρ S { tmps := vals.toArray ++ Array.replicate (fn.ntmps - vals.toArray.size) undef, defers := [] } w ⟨args ++ List.replicate (fn.ntmps - args.length) .any, H, true⟩ := ⟨hs, ⟨by simp [ha.1], fun t v x h1 h2 => .of_rep (by
        rcases Nat.lt_or_ge t args.length with hlt | hge
        · rw [List.getElem?_append_left hlt] at h1
          rw [Array.getElem?_append_left (by simpa [← ha.1] using hlt)] at h2
          exact ha.2 t v x h1 (by simpa using h2)
        · rw [List.getElem?_append_right hge, List.getElem?_replicate] at h1
          split at h1
          · simp at h1; subst h1; exact .any x
          · cases h1)⟩, rfl⟩
    refine wp_mono (htr H.length ρ S _ w (Nat.le_refl _) hsat) ?_
    rintro e' a' w' ⟨rfl, hn, ρ1, S1, hsat1, hst1⟩
    obtain ⟨u, hu, hr1⟩ := resV_sound hD n1 hsat1 hv
    have hpost2 : ∃ u' ρ' S', Ending.returned u = .returned u' ∧ HeapSat cx.D ρ' S' w' H' ∧ Rep cx.D ρ' S' w' v' u' ∧ Step cx.D H.length ρ S H w ρ' S' H' w' := by
      obtain ⟨ρ2, S2, q1, q2, q3⟩ := hfin ρ1 S1 w' hn hsat1.heap u hr1
      exact ⟨u, ρ2, S2, rfl, q1, q2, hst1.trans q3⟩
    cases e with
    | exit i => exact absurd rfl (hne i)
    | normal => exact ⟨hsat1.defers, u, hu, hpost2⟩
    | ret => exact ⟨hsat1.defers, u, hu, hpost2⟩
  · cases h

/-! ### contracts -/
structure ConD (K : Uni) where
  f : FuncId
  sh : CSh K
  R : Type
  run : sh.T → Option R
  dflt : R
  out : R → AV K × List (Ob K)

def ConD.Ok (D : Cod K) (P : Program) (c : ConD K) : Prop := ∀ x r, c.run x = some r → RC D P c.f (c.sh.encV D x) (c.sh.encO D x) (c.out r).1 (c.out r).2

def callOf (D : Cod K) : List (ConD K) → FuncId → List (AV K) → List (Ob K) → Option (AV K × List (Ob K) × Bool)
  | [], _, _, _ => none
  | c :: l, f, args, H => cond (Nat.beq c.f f) (match c.sh.dec D args H with
    | some x => some ((c.out ((c.run x).getD c.dflt)).1, (c.out ((c.run x).getD c.dflt)).2, (c.run x).isSome)
    | none => callOf D l f args H) (callOf D l f args H)

theorem RC.weak {D : Cod K} {P : Program} {f : FuncId} {args args' : List (AV K)} {r : AV K} {Ho : List (Ob K)} (hw : Wk D args H args' H') (h : RC D P f args' H' r Ho) : RC D P f args H r Ho := by
  refine ⟨h.1, fun ρ S w vals hs ha => (h.2 ρ S w vals (hw.heap _ _ _ hs) (hw.reps _ _ _ _ ha)).mono ?_⟩
  rintro e w' ⟨u, ρ', S', rfl, h1, h2, h3⟩
  rw [hw.len] at h3
  exact ⟨u, ρ', S', rfl, h1, h2, hw.step.trans h3⟩

theorem callOf_ok {D : Cod K} (hD : CodOk D) {P : Program} : ∀ (l : List (ConD K)), (∀ c ∈ l, c.Ok D P) → ∀ f args H r H', callOf D l f args H = some (r, H', true) → RC D P f args H r H'
  | [], _, f, args, H, r, H', h => by simp [callOf] at h
  | c :: l, hl, f, args, H, r, H', h => by
    have ih := callOf_ok hD l (fun c hc => hl c (by simp [hc])) f args H r H'
    unfold callOf at h
    cases hb : Nat.beq c.f f with
    | false => rw [hb] at h; exact ih h
    | true =>
      rw [hb] at h
      have hf : c.f = f := Nat.eq_of_beq_eq_true hb
      simp only [cond_true] at h
      split at h
      · rename_i x hx
        simp only [Option.some.injEq, Prod.mk.injEq] at h
        obtain ⟨h1, h2, h3⟩ := h
        obtain ⟨y, hy⟩ := Option.isSome_iff_exists.1 h3
        rw [hy] at h1 h2
        simp only [Option.getD_some] at h1 h2
        have := hl c (by simp) x y hy
        rw [h1, h2, hf] at this
        exact this.weak (CSh.dec_wk hD hx)
      · exact ih h
def ConD.frz (D : Cod K) (c : ConD K) : ConD K := { c with out := fun r => (lend D (c.out r).2 (c.out r).1, []) }
structure ResD (K : Uni) (D : Cod K) (R : Type) where
  sh : CSh K
  conv : sh.T → R

def ResD.fin {D : Cod K} {R : Type} (d : ResD K D R) (v : AV K) (H : List (Ob K)) : Option R := match d.sh.dec D [v] H with
  | some x => some (d.conv x)
  | none => none

theorem fn_ok {cx : Cx K} (hD : CodOk cx.D) (hc : CallOk cx) (hm : cx.P.follows .mixedOrders = true) {c : ConD K} {fz : Bool} {fn : Func} (hf : FnAt cx.P c.f fn) (hl : ∀ b, fn.body = some b → LoopsOk cx b)
    (d : ResD K cx.D c.R) (ho : ∀ x, ([(c.out (d.conv x)).1], (c.out (d.conv x)).2) = (d.sh.encV cx.D x, d.sh.encO cx.D x)) (he : ∀ x, runD cx fz fn (c.sh.encV cx.D x) (c.sh.encO cx.D x) d.fin = c.run x) : c.Ok cx.D cx.P := by
  intro x r hr
  rw [← he x] at hr
  obtain ⟨v, H', h1, h2⟩ := runD_sound hD hc hm hf hl hr
  unfold ResD.fin at h1
  split at h1
  · rename_i y hy
    simp only [Option.some.injEq] at h1
    have hw := CSh.dec_wk hD hy
    have := ho y
    simp only [Prod.mk.injEq] at this
    rw [← this.1, ← this.2] at hw
    rw [h1] at hw
    refine ⟨h2.1, fun ρ S w vals hs ha => (h2.2 ρ S w vals hs ha).mono ?_⟩
    rintro e w' ⟨u, ρ', S', rfl, g1, g2, g3⟩
    have := (hw.reps _ _ _ [u] (.cons g2 .nil)).head
    exact ⟨u, ρ', S', rfl, hw.heap _ _ _ g1, this, g3.trans hw.step⟩
  · cases h1

/-! ### loops -/
def srcStart (kp : Bool) : Nat → List (Ob K) → List (Option Nat) × List (Option Nat)
  | _, [] => ([], [])
  | i, o :: r => match srcStart kp (i + 1) r with
    | (a, b) => match o with
      | .arr .. => cond kp (some i :: a, b) (none :: a, some i :: b)
      | .tree .. => cond kp (some i :: a, b) (none :: a, some i :: b)
      | _ => (some i :: a, b)

def startSt (kp : Bool) (n n0 : Nat) (ins : List Nat) (vals : List (AV K)) (Hi : List (Ob K)) : Option (St K) :=
  match reSt n0 ((srcStart kp 0 Hi).1 ++ (srcStart kp 0 Hi).2) ins ⟨setOuts (List.replicate n .any) ins vals, Hi, true⟩ with
  | some st => normSt n0 ins st
  | none => none

def tmsOf (st : St K) (ts : List Nat) : List (AV K) := ts.map fun t => st.tm.getD t .any

def loopD (D : Cod K) (kp : Bool) (n n0 : Nat) (ins outs : List Nat) (sh : CSh K) {Y : Type} (run : sh.T → Option Y) (out : Y → {R : Type} → (Ex → List (AV K) → List (Ob K) → R) → R) : LoopD K where
  n := n
  ins := ins
  outs := outs
  run vals Hi k := cond (Nat.beq Hi.length n0) (match startSt kp n n0 ins vals Hi with
    | some st => match sh.dec D (tmsOf st ins) st.H with
      | some x => match run x with
        | some y => out y k
        | none => none
      | none => none
    | none => none) none

def loopEnd (cx : Cx K) (n n0 : Nat) (ins outs : List Nat) (sh : CSh K) {Y : Type} (next : sh.T → Option Y) (fin : Ex → List (AV K) → List (Ob K) → Option Y) (e : Ex) (s : St K) : Option Y :=
  cond s.ok (cond (Nat.beq s.tm.length n) (match e with
    | .normal => match closeSt cx s with
      | some (b, s1) => cond b (match normSt n0 ins s1 with
        | some s' => match sh.dec cx.D (tmsOf s' ins) s'.H with
          | some x => next x
          | none => none
        | none => none) none
      | none => none
    | e => match closeSt cx s with
      | some (b, s1) => cond b (match normSt n0 outs s1 with
        | some s' => fin e (tmsOf s' outs) s'.H
        | none => none) none
      | none => none) none) none

def headSt (D : Cod K) (n : Nat) (ins : List Nat) (sh : CSh K) (x : sh.T) : St K := ⟨setOuts (List.replicate n .any) ins (sh.encV D x), sh.encO D x, true⟩

structure ExitD (K : Uni) (Y : Type) where
  e : Ex
  sh : CSh K
  conv : sh.T → Y

def Ex.same : Ex → Ex → Bool
  | .normal, .normal => true
  | .exit a, .exit b => Nat.beq a b
  | .ret, .ret => true
  | _, _ => false
theorem Ex.same_eq {a b : Ex} (h : Ex.same a b = true) : a = b := by
  cases a <;> cases b <;> simp only [Ex.same] at h <;> first | rfl | cases h | (rw [Nat.eq_of_beq_eq_true h])

def exitFin (D : Cod K) {Y : Type} : List (ExitD K Y) → Ex → List (AV K) → List (Ob K) → Option Y
  | [], _, _, _ => none
  | d :: l, e, vs, H => cond (Ex.same d.e e) (match d.sh.dec D vs H with
    | some x => some (d.conv x)
    | none => none) (exitFin D l e vs H)

theorem decs_length {D : Cod K} : ∀ (l : List (Sh K)) (vs : List (AV K)) (x : Sh.Ts l), Sh.decs D l vs = some x → vs.length = l.length
  | [], vs, x, h => by
    cases vs with
    | nil => rfl
    | cons v r => unfold Sh.decs at h; cases h
  | s :: r, vs, x, h => by
    cases vs with
    | nil => unfold Sh.decs at h; cases h
    | cons v l =>
      unfold Sh.decs at h
      split at h
      · rename_i a b h1 h2; simp only [List.length_cons]; rw [decs_length r l b h2]
      · cases h
theorem encs_length {D : Cod K} : ∀ (l : List (Sh K)) (x : Sh.Ts l), (Sh.encs D l x).length = l.length
  | [], x => rfl
  | s :: r, x => by simp only [Sh.encs, List.length_cons]; rw [encs_length r]
theorem dec_len {D : Cod K} {sh : CSh K} {vs : List (AV K)} {x : sh.T} (h : sh.dec D vs H = some x) : (sh.encV D x).length = vs.length := by
  unfold CSh.dec at h
  split at h
  · rename_i a b h1 h2
    unfold CSh.encV
    rw [encs_length, decs_length _ _ _ h1]
  · cases h

theorem exitFin_spec {D : Cod K} (hD : CodOk D) {Y : Type} {out : Y → {R : Type} → (Ex → List (AV K) → List (Ob K) → R) → R} : ∀ (l : List (ExitD K Y)), (∀ d ∈ l, d.e ≠ .normal ∧ ∀ x (R : Type) (k : Ex → List (AV K) → List (Ob K) → R), out (d.conv x) k = k d.e (d.sh.encV D x) (d.sh.encO D x)) →
    ∀ e vs H y, exitFin D l e vs H = some y → e ≠ .normal ∧ ∃ vs' H', (∀ (R : Type) (k : Ex → List (AV K) → List (Ob K) → R), out y k = k e vs' H') ∧ Wk D vs H vs' H' ∧ vs'.length = vs.length
  | [], _, e, vs, H, y, h => by simp [exitFin] at h
  | d :: l, hl, e, vs, H, y, h => by
    unfold exitFin at h
    cases hs : Ex.same d.e e with
    | false => rw [hs] at h; exact exitFin_spec hD l (fun d hd => hl d (by simp [hd])) e vs H y h
    | true =>
      rw [hs] at h
      have he := Ex.same_eq hs
      simp only [cond_true] at h
      split at h
      · rename_i x hx
        simp only [Option.some.injEq] at h; subst h
        obtain ⟨h1, h2⟩ := hl d (by simp)
        rw [he] at h1 h2
        exact ⟨h1, _, _, fun R k => h2 x R k, CSh.dec_wk hD hx, dec_len hx⟩
      · cases h
theorem retag {cx : Cx K} {n0 : Nat} {st : St K} {ts : List Nat} {n : Nat} (hn : st.tm.length = n) (h0 : NoOpt st.tm) {vs' : List (AV K)} (hw : Wk cx.D (tmsOf st ts) st.H vs' H') (hlen : vs'.length = ts.length) :
    Goes cx n0 st ⟨setOuts (List.replicate n .any) ts vs', H', st.ok⟩ := by
  intro ρ S a w hn0 hsat
  refine ⟨by show n0 ≤ H'.length; rw [hw.len]; exact hn0, ρ, S, ⟨hw.heap _ _ _ hsat.heap, ?_, hsat.defers⟩, hw.step⟩
  have hsz : a.tmps.size = n := by rw [← hn]; exact hsat.slots.len.symm
  have hrep : ∀ t, Rep cx.D ρ S w (st.tm.getD t .any) (a.tmps.getD t undef) := fun t => by
    rw [List.getD_eq_getElem?_getD, Array.getD_eq_getD_getElem?]
    cases hg : st.tm[t]? with
    | none => exact .any _
    | some v =>
      obtain ⟨x, hx, -⟩ := hsat.slots.get hg
      rw [hx]; exact hsat.slots.rep h0 hg hx
  have hus : Reps cx.D ρ S w (tmsOf st ts) (ts.map fun t => a.tmps.getD t undef) := ⟨by simp [tmsOf], fun i v x h1 h2 => by
    simp only [tmsOf, List.getElem?_map, Option.map_eq_some_iff] at h1 h2
    obtain ⟨t, e1, rfl⟩ := h1
    obtain ⟨t', e2, rfl⟩ := h2
    rw [e1] at e2; simp at e2; subst e2
    exact hrep t⟩
  have hus' := hw.reps _ _ _ _ hus
  refine replicate_slots hsz fun i t v x h1 h2 h3 => hus'.2 i v x h2 ?_
  simp only [List.getElem?_map, h1, Option.map_some]
  rw [Array.getD_eq_getD_getElem?, h3]; rfl

theorem encs_noOpt {D : Cod K} : ∀ (l : List (Sh K)) (x : Sh.Ts l) (i : Nat) (v : AV K), (Sh.encs D l x)[i]? = some v → v.isOpt = false
  | [], x, i, v, h => by simp [Sh.encs] at h
  | s :: r, x, i, v, h => by
    cases i with
    | zero =>
      simp only [Sh.encs, List.getElem?_cons_zero, Option.some.injEq] at h
      subst h
      cases s <;> simp only [Sh.enc] <;> rfl
    | succ i => exact encs_noOpt r x.2 i v (by simpa [Sh.encs] using h)

theorem setOuts_no {n : Nat} {ds : List Nat} {l : List (AV K)} (h : ∀ (i : Nat) v, l[i]? = some v → v.isOpt = false) : NoOpt (setOuts (List.replicate n .any) ds l) := fun t g b v e => by
  rcases setOuts_get ds l _ t _ e with h1 | ⟨i, -, h2⟩
  · rw [List.getElem?_replicate] at h1; split at h1 <;> cases h1
  · have := h i _ h2; simp [AV.isOpt] at this

theorem reSt_len {n0 : Nat} {src : List (Option Nat)} {keep : List Nat} {st st' : St K} (h : reSt n0 src keep st = some st') : st'.tm.length = st.tm.length := by
  unfold reSt at h
  split at h
  · split at h
    · simp only [Option.some.injEq] at h; subst h
      simp [setOuts_len]
    · cases h
  · cases h

theorem Tr.goes {cx : Cx K} {n0 : Nat} {c : Code} {st st1 st2 : St K} {e : Ex} (h : Tr cx n0 c st e st1) (g : Goes cx n0 st1 st2) : Tr cx n0 c st e st2 := fun ρ S a w hn hsat => by
  refine wp_mono (h ρ S a w hn hsat) ?_
  rintro e' a' w' ⟨he, hn1, ρ1, S1, hsat1, hst1⟩
  obtain ⟨hn2, ρ2, S2, hsat2, hst2⟩ := g ρ1 S1 a' w' hn1 hsat1
  exact ⟨he, hn2, ρ2, S2, hsat2, hst1.trans hst2⟩

section
variable {cx : Cx K} (hD : CodOk cx.D) (hc : CallOk cx) (hm : cx.P.follows .mixedOrders = true) {c : Code} (hl : LoopsOk cx c) {n n0 : Nat} {ins outs : List Nat} {sh : CSh K} {Y : Type} {run : Nat → sh.T → Option Y}
  {exits : List (ExitD K Y)} {out : Y → {R : Type} → (Ex → List (AV K) → List (Ob K) → R) → R}
  (h0 : ∀ x, run 0 x = none) (hs : ∀ m x, execC cx c (headSt cx.D n ins sh x) (loopEnd cx n n0 ins outs sh (run m) (exitFin cx.D exits)) = run (m + 1) x)
  (hx : ∀ d ∈ exits, d.e ≠ .normal ∧ ∀ x (R : Type) (k : Ex → List (AV K) → List (Ob K) → R), out (d.conv x) k = k d.e (d.sh.encV cx.D x) (d.sh.encO cx.D x))
include hD hc hm hl h0 hs hx

theorem loop_rounds2 {y : Y} : ∀ (m : Nat) (x : sh.T), run m x = some y → ∃ e vs Ho, (∀ (R : Type) (k : Ex → List (AV K) → List (Ob K) → R), out y k = k e vs Ho) ∧
    ∀ (ρ0 : List Value) (S0 : Nat → Prop) (H0 : List (Ob K)) (w0 : World) (ρ : List Value) (S : Nat → Prop) (a : Act) (w : World), n0 ≤ (headSt cx.D n ins sh x).H.length → Sat cx ρ S a w (headSt cx.D n ins sh x) → Step cx.D n0 ρ0 S0 H0 w0 ρ S (headSt cx.D n ins sh x).H w →
      Code.rounds cx.P c (fun e' a' w' => e' = e.toExit ∧ n0 ≤ Ho.length ∧ ∃ ρ' S', Sat cx ρ' S' a' w' ⟨setOuts (List.replicate n .any) outs vs, Ho, true⟩ ∧ Step cx.D n0 ρ0 S0 H0 w0 ρ' S' Ho w') m a w
  | 0, x, h => by rw [h0] at h; cases h
  | m + 1, x, h => by
    rw [← hs m x] at h
    obtain ⟨e, s, h1, h2, h3⟩ := execC_sound hD hc hm c hl _ _ _ h
    unfold loopEnd at h1
    have hno : NoOpt (headSt cx.D n ins sh x).tm := setOuts_no (encs_noOpt _ _)
    cases hok : s.ok with
    | false => rw [hok] at h1; cases h1
    | true =>
      rw [hok] at h1
      simp only [cond_true] at h1
      obtain ⟨n1, htr⟩ := h3 hok hno
      cases hlen : Nat.beq s.tm.length n with
      | false => rw [hlen] at h1; cases h1
      | true =>
      rw [hlen] at h1
      simp only [cond_true] at h1
      have hsn : s.tm.length = n := Nat.eq_of_beq_eq_true hlen
      have key : ∀ keep s1 s' vs' H'', closeSt cx s = some (true, s1) → normSt n0 keep s1 = some s' → Wk cx.D (tmsOf s' keep) s'.H vs' H'' → vs'.length = keep.length → Tr cx n0 c (headSt cx.D n ins sh x) e ⟨setOuts (List.replicate n .any) keep vs', H'', true⟩ := fun keep s1 s' vs' H'' hcl hn hw hvl => by
        have hr : reSt n0 ((reach s1.H 64 (List.range n0 ++ handss (keep.map fun t => s1.tm.getD t .any)) []).map some) keep s1 = some s' := hn
        obtain ⟨hk1, g1, g2⟩ := reSt_spec (cx := cx) hD hr
        obtain ⟨c1, c2, c3, c4⟩ := closeSt_sound hD hcl
        have gc : Goes cx n0 s s1 := fun ρ S a w hn hsat => by
          obtain ⟨q1, q2⟩ := c4 n0 ρ S a w hsat
          exact ⟨by rw [c3]; exact hn, ρ, S, q1, q2⟩
        have hl2 : s1.tm.length = n := by rw [c1]; exact hsn
        have hn2 : NoOpt s1.tm := by rw [c1]; exact n1
        have := (htr n0).goes (gc.trans ((g2 hn2).trans (retag ((reSt_len hr).trans hl2) g1 hw hvl)))
        rw [hk1, c2, hok] at this
        exact this
      cases e with
      | normal =>
        dsimp only at h1
        split at h1
        · rename_i b s1 hcl
          cases b with
          | false => cases h1
          | true =>
          simp only [cond_true] at h1
          split at h1
          · rename_i s' hn
            split at h1
            · rename_i x' hx'
              obtain ⟨e2, vs, Ho, q1, q2⟩ := loop_rounds2 m x' h1
              refine ⟨e2, vs, Ho, q1, fun ρ0 S0 H0 w0 ρ S a w hn0 hsat hst => ?_⟩
              rw [rounds_succ]
              refine wp_mono (key ins s1 s' _ _ hcl hn (CSh.dec_wk hD hx') (by rw [dec_len hx']; simp [tmsOf]) ρ S a w hn0 hsat) ?_
              rintro e' a' w' ⟨rfl, hn1, ρ1, S1, hsat1, hst1⟩
              exact q2 ρ0 S0 H0 w0 ρ1 S1 a' w' hn1 hsat1 (hst.trans hst1)
            · cases h1
          · cases h1
        · cases h1
      | exit id =>
        dsimp only at h1
        split at h1
        · rename_i b s1 hcl
          cases b with
          | false => cases h1
          | true =>
          simp only [cond_true] at h1
          split at h1
          · rename_i s' hn
            obtain ⟨g1, vs', H'', g2, g3, g4⟩ := exitFin_spec hD exits hx _ _ _ _ h1
            refine ⟨.exit id, vs', H'', g2, fun ρ0 S0 H0 w0 ρ S a w hn0 hsat hst => ?_⟩
            rw [rounds_succ]
            refine wp_mono (key outs s1 s' _ _ hcl hn g3 (by rw [g4]; simp [tmsOf]) ρ S a w hn0 hsat) ?_
            rintro e' a' w' ⟨rfl, hn1, ρ1, S1, hsat1, hst1⟩
            exact ⟨rfl, hn1, ρ1, S1, hsat1, hst.trans hst1⟩
          · cases h1
        · cases h1
      | ret =>
        dsimp only at h1
        split at h1
        · rename_i b s1 hcl
          cases b with
          | false => cases h1
          | true =>
          simp only [cond_true] at h1
          split at h1
          · rename_i s' hn
            obtain ⟨g1, vs', H'', g2, g3, g4⟩ := exitFin_spec hD exits hx _ _ _ _ h1
            refine ⟨.ret, vs', H'', g2, fun ρ0 S0 H0 w0 ρ S a w hn0 hsat hst => ?_⟩
            rw [rounds_succ]
            refine wp_mono (key outs s1 s' _ _ hcl hn g3 (by rw [g4]; simp [tmsOf]) ρ S a w hn0 hsat) ?_
            rintro e' a' w' ⟨rfl, hn1, ρ1, S1, hsat1, hst1⟩
            exact ⟨rfl, hn1, ρ1, S1, hsat1, hst.trans hst1⟩
          · cases h1
        · cases h1

theorem loop_ok (kp : Bool) (N : Nat) : LoopOk cx c (loopD cx.D kp n n0 ins outs sh (run N) out) := by
  intro vals Hi R k r h
  simp only [loopD] at h
  cases hb : Nat.beq Hi.length n0 with
  | false => rw [hb] at h; cases h
  | true =>
    rw [hb] at h
    have hlen : Hi.length = n0 := Nat.eq_of_beq_eq_true hb
    simp only [cond_true] at h
    split at h
    · rename_i st hst
      split at h
      · rename_i x hx1
        split at h
        · rename_i y hy
          obtain ⟨e, vs, Ho, q1, q2⟩ := loop_rounds2 hD hc hm hl h0 hs hx N x hy
          rw [q1] at h
          refine ⟨e, vs, Ho, h, ?_⟩
          unfold startSt at hst
          split at hst
          · rename_i st1 hst1
            have hst' : reSt n0 ((reach st1.H 64 (List.range n0 ++ handss (ins.map fun t => st1.tm.getD t .any)) []).map some) ins st1 = some st := hst
            obtain ⟨k1, g1, g2⟩ := reSt_spec (cx := cx) hD hst1
            obtain ⟨k2, g3, g4⟩ := reSt_spec (cx := cx) hD hst'
            intro ρ S a w hn0 hsat
            have hno : NoOpt (setOuts (List.replicate n (AV.any : AV K)) ins vals) := fun t g b v e => by
              rcases setOuts_get ins vals _ t _ e with h1 | ⟨i, h1, -⟩
              · rw [List.getElem?_replicate] at h1; split at h1 <;> cases h1
              · unfold reSt at hst1
                split at hst1
                · split at hst1
                  · rename_i ws H1 hv hm1
                    obtain ⟨gl, gg⟩ := reHs_get _ _ hv
                    have hi : i < ws.length := by rw [gl]; simp; exact (List.getElem?_eq_some_iff.1 h1).1
                    obtain ⟨v0, q1, q2⟩ := gg i _ (List.getElem?_eq_getElem hi)
                    simp only [List.getElem?_map, h1, Option.map_some, Option.some.injEq] at q1
                    rw [List.getD_eq_getElem?_getD, e] at q1
                    simp only [Option.getD_some] at q1
                    subst q1
                    simp [reH] at q2
                  · cases hst1
                · cases hst1
            have hlen1 : st1.tm.length = n := by rw [reSt_len hst1]; simp [setOuts_len]
            have hlen2 : st.tm.length = n := by rw [reSt_len hst']; exact hlen1
            have hw := CSh.dec_wk hD hx1
            have hr := retag (cx := cx) (n0 := n0) hlen2 g3 hw (by rw [dec_len hx1]; simp [tmsOf])
            have hok : st.ok = true := by rw [k2, k1]
            rw [hok] at hr
            rw [hlen]
            obtain ⟨hn1, ρ1, S1, hsat1, hst2⟩ := ((g2 hno).trans ((g4 g1).trans hr)) ρ S a w (by show n0 ≤ Hi.length; omega) hsat
            exact wp_loop_rounds N (q2 ρ S Hi w ρ1 S1 a w hn1 hsat1 hst2)
          · cases hst
        · cases h
      · cases h
    · cases h
end

/-! ### the loops of a body -/

def loopsIn : Code → List Code
  | .loop c => [c]
  | .seq a b => loopsIn a ++ loopsIn b
  | .cond _ a b => loopsIn a ++ loopsIn b
  | .block _ c => loopsIn c
  | _ => []
def loopNo (c : Code) (i : Nat) : Code := (loopsIn c).getD i .skip

theorem loopsOk_of {cx : Cx K} : ∀ (c : Code), (∀ b ∈ loopsIn c, ∀ L, cx.loop (keyOf b) = some L → LoopOk cx b L) → LoopsOk cx c
  | .loop c, h => fun L hL => h c (by simp [loopsIn]) L hL
  | .seq a b, h => ⟨loopsOk_of a fun x hx => h x (by simp [loopsIn, hx]), loopsOk_of b fun x hx => h x (by simp [loopsIn, hx])⟩
  | .cond _ a b, h => ⟨loopsOk_of a fun x hx => h x (by simp [loopsIn, hx]), loopsOk_of b fun x hx => h x (by simp [loopsIn, hx])⟩
  | .block _ c, h => loopsOk_of c h
  | .skip, _ | .exit _, _ | .ret, _ | .region .., _ | .scope .., _ | .rangeFunc .., _ | .goto .., _ | .label .., _ | .refuse .., _ => trivial
def LoopAt (cx : Cx K) (c : Code) : Prop := ∃ L, cx.loop (keyOf c) = some L ∧ LoopOk cx c L
theorem LoopAt.mk {cx : Cx K} {c : Code} {L : LoopD K} (h : cx.loop (keyOf c) = some L) (ho : LoopOk cx c L) : LoopAt cx c := ⟨L, h, ho⟩
theorem loopsOk_n {cx : Cx K} {c : Code} (n : Nat) (hn : (loopsIn c).length = n) (h : ∀ i, i < n → LoopAt cx (loopNo c i)) : LoopsOk cx c :=
  loopsOk_of c fun b hb L hL => by
    obtain ⟨i, hi, rfl⟩ := List.getElem_of_mem hb
    obtain ⟨L', h1, h2⟩ := h i (by omega)
    have e : loopNo c i = (loopsIn c)[i] := by simp [loopNo, List.getD_eq_getElem?_getD, List.getElem?_eq_getElem hi]
    rw [e] at h1 h2
    rw [h1] at hL; simp only [Option.some.injEq] at hL; subst hL; exact h2
theorem loopsOk_0 {cx : Cx K} {c : Code} (hn : (loopsIn c).length = 0) : LoopsOk cx c := loopsOk_n 0 hn fun i hi => absurd hi (Nat.not_lt_zero i)

theorem lt_one {p : Nat → Prop} (h : p 0) : ∀ i, i < 1 → p i := fun i hi => by
  have : i = 0 := by omega
  subst this; exact h
theorem lt_succ {p : Nat → Prop} {n : Nat} (h : ∀ i, i < n → p i) (hn : p n) : ∀ i, i < n + 1 → p i := fun i hi => by
  by_cases he : i = n
  · subst he; exact hn
  · exact h i (by omega)

def bodyOf (fn : Func) : Code := match fn.body with
  | some c => c
  | none => .skip
theorem hl_of {cx : Cx K} {fn : Func} (h : LoopsOk cx (bodyOf fn)) : ∀ c, fn.body = some c → LoopsOk cx c := fun c hc => by
  have : bodyOf fn = c := by unfold bodyOf; rw [hc]
  rw [← this]; exact h

theorem all_nil {α : Type _} {p : α → Prop} : ∀ c ∈ ([] : List α), p c := fun c h => by simp at h
theorem all_cons {α : Type _} {p : α → Prop} {a : α} {l : List α} (h : p a) (t : ∀ c ∈ l, p c) : ∀ c ∈ a :: l, p c := fun c hc => by
  rcases List.mem_cons.1 hc with rfl | hc
  · exact h
  · exact t c hc

theorem ne_exit {i : Nat} : Ex.exit i ≠ .normal := fun h => by cases h
theorem ne_ret : Ex.ret ≠ .normal := fun h => by cases h
theorem none_ok {D : Cod K} {P : Program} {c : ConD K} (h : ∀ x, c.run x = none) : c.Ok D P := fun x r hr => by rw [h] at hr; cases hr
theorem big_exists : ∃ n : Nat, 2 ^ 63 ≤ n := ⟨2 ^ 63, Nat.le_refl _⟩
noncomputable def bigN : Nat := Classical.choose big_exists
theorem bigN_le : 2 ^ 63 ≤ bigN := Classical.choose_spec big_exists

end Go.V
