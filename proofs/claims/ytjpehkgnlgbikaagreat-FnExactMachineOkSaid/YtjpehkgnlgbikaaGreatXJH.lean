/-
  MachineOk, plain: bases that differ by small numbers rise from 0, none is above the stack's length.
-/
import Derived.Test.YtjpehkgnlgbikaaGreatXJpl
import Derived.Test.YtjpehkgnlgbikaaGreatXJT
set_option linter.unusedVariables false
namespace M
theorem sub_rise {a b d : Int} (ha : -9223372036854775808 ≤ a) (ha' : a ≤ 9223372036854775807) (hb : 0 ≤ b) (hb' : b ≤ 1099511627776) (hd : 0 ≤ d) (hd' : d ≤ 1048576)
    (h : Go.IntKind.wrap .i64 (a - b) = d) : a = b + d := by
  unfold Go.IntKind.wrap at h
  simp [Go.IntKind.bits, Go.IntKind.signed] at h
  omega

theorem bases_rise {n : Nat} {b d : Nat → Int} (hn : n ≤ 100) (hr : ∀ k, k < n → -9223372036854775808 ≤ b k ∧ b k ≤ 9223372036854775807) (h0 : b 0 = 0)
    (hd : ∀ k, k + 1 < n → 0 ≤ d k ∧ d k ≤ 1048576) (h : ∀ k, k + 1 < n → Go.IntKind.wrap .i64 (b (k + 1) - b k) = d k) :
    ∀ k, k < n → 0 ≤ b k ∧ b k ≤ (k : Int) * 1048576 := by
  intro k; induction k with
  | zero => intro _; rw [h0]; omega
  | succ k ih =>
    intro hk
    have ⟨i1, i2⟩ := ih (by omega)
    have ⟨r1, r2⟩ := hr (k + 1) hk
    have ⟨d1, d2⟩ := hd k hk
    have := sub_rise r1 r2 i1 (by omega) d1 d2 (h k hk)
    push_cast; omega

theorem bases_step {n : Nat} {b d : Nat → Int} (hn : n ≤ 100) (hr : ∀ k, k < n → -9223372036854775808 ≤ b k ∧ b k ≤ 9223372036854775807) (h0 : b 0 = 0)
    (hd : ∀ k, k + 1 < n → 0 ≤ d k ∧ d k ≤ 1048576) (h : ∀ k, k + 1 < n → Go.IntKind.wrap .i64 (b (k + 1) - b k) = d k)
    {k : Nat} (hk : k + 1 < n) : b (k + 1) = b k + d k := by
  have ⟨i1, i2⟩ := bases_rise hn hr h0 hd h k (by omega)
  have ⟨r1, r2⟩ := hr (k + 1) hk
  have ⟨d1, d2⟩ := hd k hk
  exact sub_rise r1 r2 i1 (by omega) d1 d2 (h k hk)
theorem bases_le {n : Nat} {b d : Nat → Int} {s : Nat} (hn : n ≤ 100) (hr : ∀ k, k < n → -9223372036854775808 ≤ b k ∧ b k ≤ 9223372036854775807) (h0 : b 0 = 0)
    (hd : ∀ k, k < n → 0 ≤ d k ∧ d k ≤ 1048576) (h : ∀ k, k + 1 < n → Go.IntKind.wrap .i64 (b (k + 1) - b k) = d k)
    (hs : (s : Int) ≤ 9223372036854775807) (hl : Go.IntKind.wrap .i64 ((s : Int) - b (n - 1)) = d (n - 1)) : ∀ k, k < n → b k ≤ (s : Int) := by
  intro k hk
  have hlast : b (n - 1) ≤ s := by
    have ⟨i1, i2⟩ := bases_rise hn hr h0 (fun k hk => hd k (by omega)) h (n - 1) (by omega)
    have ⟨d1, d2⟩ := hd (n - 1) (by omega)
    have := sub_rise (by omega) hs i1 (by omega) d1 d2 hl
    omega
  have : ∀ m, k + m < n → b k ≤ b (k + m) := by
    intro m; induction m with
    | zero => intro _; exact Int.le_refl _
    | succ m ih =>
      intro hm
      have := bases_step hn hr h0 (fun k hk => hd k (by omega)) h (k := k + m) (by omega)
      have ⟨d1, d2⟩ := hd (k + m) (by omega)
      have e : k + (m + 1) = k + m + 1 := by omega
      rw [e]; have := ih (by omega); omega
  have := this (n - 1 - k) (by omega)
  rw [show k + (n - 1 - k) = n - 1 by omega] at this
  omega
end M
/-
  MachineOk: what a valid core's places say.
-/
set_option linter.unusedVariables false
set_option linter.unusedSimpArgs false
namespace M
open Go.V (inB slB bigN bigN_le)
noncomputable def plOf (m : SModule) (k : Nat) : List SCodePlace := (coreR m (m.Cores.getD k SCore.zero)).1
structure Held (m : SModule) (k : Nat) : Prop where
  len : (plOf m k).length = (m.Cores.getD k SCore.zero).Code.length + 1
  n : (m.Cores.getD k SCore.zero).Code.length ≤ 120
  ht : ∀ j, j < (plOf m k).length → 0 ≤ ((plOf m k).getD j SCodePlace.zero).Height ∧ ((plOf m k).getD j SCodePlace.zero).Height ≤ 24
  call : ∀ j, j < (m.Cores.getD k SCore.zero).Code.length → ((plOf m k).getD j SCodePlace.zero).Known = true → ((m.Cores.getD k SCore.zero).Code.getD j SIns.zero).Op = 32 →
    (0 ≤ ((m.Cores.getD k SCore.zero).Code.getD j SIns.zero).A ∧ ((m.Cores.getD k SCore.zero).Code.getD j SIns.zero).A < (m.Cores.length : Int)) ∧ (m.Cores.getD ((m.Cores.getD k SCore.zero).Code.getD j SIns.zero).A.toNat SCore.zero).Params ≤ ((plOf m k).getD j SCodePlace.zero).Height
  host : ∀ j, j < (m.Cores.getD k SCore.zero).Code.length → ((plOf m k).getD j SCodePlace.zero).Known = true → ((m.Cores.getD k SCore.zero).Code.getD j SIns.zero).Op = 33 →
    (0 ≤ ((m.Cores.getD k SCore.zero).Code.getD j SIns.zero).A ∧ ((m.Cores.getD k SCore.zero).Code.getD j SIns.zero).A < (m.Imports.length : Int)) ∧ (m.Imports.getD ((m.Cores.getD k SCore.zero).Code.getD j SIns.zero).A.toNat SImport.zero).Params ≤ ((plOf m k).getD j SCodePlace.zero).Height

theorem placeP_known {s : CSt} (h : (placeP s).Known = true) : s.kn = true := by
  unfold placeP at h; split at h
  · assumption
  · cases h
theorem placeP_h {s : CSt} (h : s.kn = true) : (placeP s).Height = s.h := by unfold placeP; rw [if_pos h]

theorem held_of {m : SModule} (hm : MOk m) {k : Nat} (hk : k < m.Cores.length) (hok : (coreR m m.Cores[k]).2.2 = 0) : Held m k := by
  have hn := (hm.core _ (List.getElem_mem hk)).2.2
  have hins := hm.ins _ (List.getElem_mem hk)
  obtain ⟨Bf, p, h1, h2, h3, h4, h5⟩ := core_ok (m := m) (c := m.Cores[k]) hok
  have hlen := cRun_len _ _ _ _ _ h3
  rw [List.length_nil, Nat.zero_add] at hlen
  obtain ⟨S, T, R⟩ := run_of hm h1 h3
  have hg : m.Cores.getD k SCore.zero = m.Cores[k] := getD_lt hk _
  have hpl : plOf m k = p.2 ++ [SCodePlace.mk true (bitI m.Cores[k].Result) []] := by unfold plOf; rw [hg, h5]
  have hbit := bitI_le m.Cores[k].Result
  have gl : ∀ j, j < m.Cores[k].Code.length → (plOf m k).getD j SCodePlace.zero = placeP (S j) := fun j hj => by
    rw [← (R.st j hj).2.2, hpl, List.getD_eq_getElem?_getD, List.getD_eq_getElem?_getD, List.getElem?_append_left (by omega)]
  have gn : (plOf m k).getD m.Cores[k].Code.length SCodePlace.zero = SCodePlace.mk true (bitI m.Cores[k].Result) [] := by
    rw [hpl, List.getD_eq_getElem?_getD, List.getElem?_append_right (by omega), hlen, Nat.sub_self]; rfl
  have hll : (plOf m k).length = m.Cores[k].Code.length + 1 := by rw [hpl, List.length_append, hlen]; rfl
  have key : ∀ j, j < m.Cores[k].Code.length → ((plOf m k).getD j SCodePlace.zero).Known = true → ∀ i, i = m.Cores[k].Code.getD j SIns.zero → ¬ (i.Op = 27 ∨ i.Op = 28) → i.Op ≠ 1 →
      0 ≤ i.A ∧ thereP m m.Cores[k] i (S j) = true ∧ (takeP m i).1 ≤ ((plOf m k).getD j SCodePlace.zero).Height := fun j hj hkn i hi hno h1' => by
    rw [gl j hj] at hkn ⊢
    have hs := placeP_known hkn
    rw [placeP_h hs]
    have hst := (R.st j hj).1
    rw [← hi] at hst
    have hb := (baseP_le (R.ci j (by omega))).1
    obtain ⟨⟨-, g2, g3, -⟩, -⟩ := cStep_next hno hst
    have hmem : i ∈ m.Cores[k].Code := by rw [hi, getD_lt hj]; exact List.getElem_mem hj
    exact ⟨((hins i hmem).2 h1').1, g2, by omega⟩
  refine ⟨by rw [hg]; exact hll, by rw [hg]; exact hn, fun j hj => ?_, fun j hj hkn ho => ?_, fun j hj hkn ho => ?_⟩
  · by_cases hj' : j < m.Cores[k].Code.length
    · rw [gl j hj']
      have := (R.ci j (by omega)).h
      unfold placeP; split
      · exact this
      · simp
    · have : j = m.Cores[k].Code.length := by omega
      subst this; rw [gn]; exact ⟨hbit.1, by have := hbit.2; simp only; omega⟩
  · rw [hg] at hj ho ⊢
    obtain ⟨a, b, c⟩ := key j hj hkn _ rfl (by rw [ho]; decide) (by rw [ho]; decide)
    unfold thereP at b; unfold takeP at c
    rw [ho] at b c
    simp at b c
    exact ⟨⟨a, b⟩, by simpa using c⟩
  · rw [hg] at hj ho ⊢
    obtain ⟨a, b, c⟩ := key j hj hkn _ rfl (by rw [ho]; decide) (by rw [ho]; decide)
    unfold thereP at b; unfold takeP at c
    rw [ho] at b c
    simp at b c
    exact ⟨⟨a, b⟩, by simpa using c⟩
end M
/-
  MachineOk: a frame, on both sides.
-/
set_option linter.unusedVariables false
set_option linter.unusedSimpArgs false
namespace M
open Go.V (inB slB bigN bigN_le)

structure Ready (m : SModule) : Prop where
  ok : MOk m
  cs : ∀ k, ∀ hk : k < m.Cores.length, (coreR m m.Cores[k]).2.2 = 0
theorem Ready.held {m : SModule} (R : Ready m) {k : Nat} (hk : k < m.Cores.length) : Held m k := held_of R.ok hk (R.cs k hk)
theorem Ready.s {m : SModule} (R : Ready m) {k : Nat} (hk : k < m.Cores.length) : ∃ r, M.s_l16Core m (k : Int) = some r ∧ r.1 = plOf m k := ⟨_, core_s_eq R.ok hk, by unfold plOf; rw [getD_lt hk]⟩

noncomputable def frP (m : SModule) (f : SCoreFrame) : SCodePlace := (plOf m f.Core.toNat).getD f.PC.toNat SCodePlace.zero
noncomputable def coOf (m : SModule) (f : SCoreFrame) : SCore := m.Cores.getD f.Core.toNat SCore.zero
noncomputable def frL (m : SModule) (f : SCoreFrame) : Bool := decide ((f.Locals.length : Int) = (coOf m f).Params + (coOf m f).Locals) && (decide (0 ≤ f.PC) && decide (f.PC ≤ ((coOf m f).Code.length : Int)))
noncomputable def frC (m : SModule) (f : SCoreFrame) : Bool := decide (0 ≤ f.Core) && decide (f.Core < (m.Cores.length : Int))
noncomputable def frB (m : SModule) (f : SCoreFrame) : Bool := frC m f && (frL m f && (frP m f).Known)

theorem frC_eq {m : SModule} (hm : MOk m) (f : SCoreFrame) : (decide ((0 : Int) ≤ f.Core) && decide (f.Core ≤ Go.IntKind.wrap .i64 ((m.Cores.length : Int) - 1))) = frC m f := by
  have := hm.cores
  rw [wrap_i64 (by omega) (by omega)]
  unfold frC
  congr 1
  rw [decide_eq_decide]; omega
theorem wrapPL {m : SModule} (hm : MOk m) {k : Nat} (hk : k < m.Cores.length) : Go.IntKind.wrap .i64 ((m.Cores.getD k SCore.zero).Params + (m.Cores.getD k SCore.zero).Locals) = (m.Cores.getD k SCore.zero).Params + (m.Cores.getD k SCore.zero).Locals := by
  have h := hm.core _ (List.getElem_mem hk)
  rw [getD_lt hk, wrap_i64 (by omega) (by omega)]

theorem fr_s {m : SModule} (R : Ready m) (f : SCoreFrame) : M.s_l18Frame m f = some (if frB m f = true then (frP m f, true) else (SCodePlace.mk false 0 [], false)) := by
  unfold M.s_l18Frame frB
  rw [frC_eq R.ok]
  cases hc : frC m f
  · rfl
  · have hc' := hc
    unfold frC at hc'
    rw [Bool.and_eq_true, decide_eq_true_eq, decide_eq_true_eq] at hc'
    obtain ⟨k, hk0⟩ := Int.eq_ofNat_of_zero_le hc'.1
    have hk : k < m.Cores.length := by omega
    obtain ⟨r, hr, hr1⟩ := R.s hk
    have H := R.held hk
    have e : f.Core.toNat = k := by omega
    have hl : ((((f.Locals.length : Int)) != (m.Cores.getD k SCore.zero).Params + (m.Cores.getD k SCore.zero).Locals) || !(decide ((0 : Int) ≤ f.PC) && decide (f.PC ≤ ((m.Cores.getD k SCore.zero).Code.length : Int)))) = !(frL m f) := by
      unfold frL coOf; rw [e, Bool.not_and]; congr 1
      rw [Bool.eq_iff_iff]; simp [bne_iff_ne]
    simp only [Bool.not_true, cond_false, Bool.true_and, e, hk0, Int.toNat_natCast, wrapPL R.ok hk, hr, Option.getD_some, Option.isSome_some, inB_nat, hk, decide_true, Bool.and_self, Bool.and_true, hl]
    rw [hr1]
    have hP : (plOf m k).getD f.PC.toNat SCodePlace.zero = frP m f := by unfold frP; rw [e]
    rw [hP]
    cases hL : frL m f
    · simp
    · have hL' := hL
      unfold frL coOf at hL'
      rw [e] at hL'
      simp only [Bool.and_eq_true, decide_eq_true_eq] at hL'
      obtain ⟨j, hj⟩ := Int.eq_ofNat_of_zero_le hL'.2.1
      have hb : inB f.PC (plOf m k).length = true := by rw [hj, inB_nat, decide_eq_true_eq, H.len]; omega
      rw [hb]
      cases (frP m f).Known <;> rfl

theorem fr_i {m : SModule} (R : Ready m) (bl : List (List SCodeBlock)) (f : SCoreFrame) : M.i_code_frameOk_2 (Scode.mk m ((List.range m.Cores.length).map (plOf m)) bl) f = some (frB m f) := by
  unfold M.i_code_frameOk_2 frB
  simp only
  rw [frC_eq R.ok]
  cases hc : frC m f
  · rfl
  · have hc' := hc
    unfold frC at hc'
    rw [Bool.and_eq_true, decide_eq_true_eq, decide_eq_true_eq] at hc'
    obtain ⟨k, hk0⟩ := Int.eq_ofNat_of_zero_le hc'.1
    have hk : k < m.Cores.length := by omega
    have H := R.held hk
    have e : f.Core.toNat = k := by omega
    have hg : ((List.range m.Cores.length).map (plOf m)).getD k [] = plOf m k := by
      rw [List.getD_eq_getElem?_getD]; simp [hk]
    have hl : (((f.Locals.length : Int) == (m.Cores.getD k SCore.zero).Params + (m.Cores.getD k SCore.zero).Locals) && (decide ((0 : Int) ≤ f.PC) && decide (f.PC ≤ ((m.Cores.getD k SCore.zero).Code.length : Int)))) = frL m f := by
      unfold frL coOf; rw [e]; congr 1
    have hP : (plOf m k).getD f.PC.toNat SCodePlace.zero = frP m f := by unfold frP; rw [e]
    simp only [Bool.not_true, cond_false, Bool.true_and, e, hk0, Int.toNat_natCast, wrapPL R.ok hk, hl, inB_nat, hk, hg, hP, List.length_map, List.length_range, decide_true, Bool.and_self, Bool.and_true, Bool.true_or]
    cases hL : frL m f
    · simp
    · have hL' := hL
      unfold frL coOf at hL'
      rw [e] at hL'
      simp only [Bool.and_eq_true, decide_eq_true_eq] at hL'
      obtain ⟨j, hj⟩ := Int.eq_ofNat_of_zero_le hL'.2.1
      have hb : inB f.PC (plOf m k).length = true := by rw [hj, inB_nat, decide_eq_true_eq, H.len]; omega
      rw [hb]; rfl
noncomputable def atI (m : SModule) (f : SCoreFrame) : SIns := if f.PC = ((coOf m f).Code.length : Int) then SIns.mk 0 0 else (coOf m f).Code.getD f.PC.toNat SIns.zero
theorem frB_at {m : SModule} {f : SCoreFrame} (h : frB m f = true) : ∃ k j : Nat, f.Core = (k : Int) ∧ k < m.Cores.length ∧ f.PC = (j : Int) ∧ j ≤ (coOf m f).Code.length ∧ (frP m f).Known = true := by
  unfold frB frC frL at h
  simp only [Bool.and_eq_true, decide_eq_true_eq] at h
  obtain ⟨⟨a, b⟩, ⟨-, c, d⟩, e⟩ := h
  obtain ⟨k, hk⟩ := Int.eq_ofNat_of_zero_le a
  obtain ⟨j, hj⟩ := Int.eq_ofNat_of_zero_le c
  exact ⟨k, j, hk, by omega, hj, by omega, e⟩
theorem at_s {m : SModule} {f : SCoreFrame} (h : frB m f = true) : M.s_l18At m f = some (atI m f) := by
  obtain ⟨k, j, hk, hk1, hj, hj1, -⟩ := frB_at h
  unfold M.s_l18At atI coOf at *
  simp only [hk, hj, Int.toNat_natCast, inB_nat, hk1, decide_true, Bool.and_self, Bool.and_true, cond_true] at *
  by_cases q : (j : Int) = ((m.Cores.getD k SCore.zero).Code.length : Int)
  · rw [if_pos q, q]; simp
  · rw [if_neg q, beq_eq_false_iff_ne.2 q, cond_false]
    rw [decide_eq_true (by omega), cond_true]
theorem at_i {m : SModule} {pl : List (List SCodePlace)} {bl : List (List SCodeBlock)} {f : SCoreFrame} (h : frB m f = true) : M.i_code_at (Scode.mk m pl bl) f = some (atI m f) := at_s h
end M
/-
  MachineOk: the frames, on both sides.
-/
set_option linter.unusedVariables false
set_option linter.unusedSimpArgs false
namespace M
open Go.V (inB slB bigN bigN_le)

noncomputable def fOf (x : SMachine) (k : Nat) : SCoreFrame := x.Frames.getD k SCoreFrame.zero
theorem at_call {m : SModule} (R : Ready m) {f : SCoreFrame} (h : frB m f = true) (ho : (atI m f).Op = 32) :
    (0 ≤ (atI m f).A ∧ (atI m f).A < (m.Cores.length : Int)) ∧ (m.Cores.getD (atI m f).A.toNat SCore.zero).Params ≤ (frP m f).Height := by
  obtain ⟨k, j, hk, hk1, hj, hj1, hkn⟩ := frB_at h
  unfold atI at ho ⊢
  by_cases q : f.PC = ((coOf m f).Code.length : Int)
  · rw [if_pos q] at ho; exact absurd ho (by decide)
  · rw [if_neg q] at ho ⊢
    have e1 : f.Core.toNat = k := by omega
    have e2 : f.PC.toNat = j := by omega
    unfold coOf at q ho hj1 ⊢
    unfold frP at hkn ⊢
    rw [e1] at q ho hj1 hkn ⊢
    rw [e2] at ho hkn ⊢
    exact (R.held hk1).call j (by omega) hkn ho
theorem at_host {m : SModule} (R : Ready m) {f : SCoreFrame} (h : frB m f = true) (ho : (atI m f).Op = 33) :
    (0 ≤ (atI m f).A ∧ (atI m f).A < (m.Imports.length : Int)) ∧ (m.Imports.getD (atI m f).A.toNat SImport.zero).Params ≤ (frP m f).Height := by
  obtain ⟨k, j, hk, hk1, hj, hj1, hkn⟩ := frB_at h
  unfold atI at ho ⊢
  by_cases q : f.PC = ((coOf m f).Code.length : Int)
  · rw [if_pos q] at ho; exact absurd ho (by decide)
  · rw [if_neg q] at ho ⊢
    have e1 : f.Core.toNat = k := by omega
    have e2 : f.PC.toNat = j := by omega
    unfold coOf at q ho hj1 ⊢
    unfold frP at hkn ⊢
    rw [e1] at q ho hj1 hkn ⊢
    rw [e2] at ho hkn ⊢
    exact (R.held hk1).host j (by omega) hkn ho
theorem fr_ht {m : SModule} (R : Ready m) {f : SCoreFrame} (h : frB m f = true) : 0 ≤ (frP m f).Height ∧ (frP m f).Height ≤ 24 := by
  obtain ⟨k, j, hk, hk1, hj, hj1, hkn⟩ := frB_at h
  have H := R.held hk1
  have e1 : f.Core.toNat = k := by omega
  have e2 : f.PC.toNat = j := by omega
  unfold coOf at hj1
  unfold frP
  rw [e1] at hj1
  rw [e1, e2]
  exact H.ht j (by rw [H.len]; omega)
noncomputable def msS (m : SModule) (x : SMachine) (k : Nat) : Bool :=
  frB m (fOf x k) && (if k + 1 < x.Frames.length then ((atI m (fOf x k)).Op == 32 && (atI m (fOf x k)).A == (fOf x (k + 1)).Core) &&
      Go.IntKind.wrap .i64 ((fOf x (k + 1)).Base - (fOf x k).Base) == Go.IntKind.wrap .i64 ((frP m (fOf x k)).Height - (m.Cores.getD (atI m (fOf x k)).A.toNat SCore.zero).Params)
    else if x.Status = 2 then (((atI m (fOf x k)).Op == 33 && (atI m (fOf x k)).A == x.Import) && (x.Args.length : Int) == (m.Imports.getD (atI m (fOf x k)).A.toNat SImport.zero).Params) &&
      Go.IntKind.wrap .i64 ((x.Stack.length : Int) - (fOf x k).Base) == Go.IntKind.wrap .i64 ((frP m (fOf x k)).Height - (m.Imports.getD (atI m (fOf x k)).A.toNat SImport.zero).Params)
    else Go.IntKind.wrap .i64 ((x.Stack.length : Int) - (fOf x k).Base) == Go.IntKind.wrap .i64 ((frP m (fOf x k)).Height - 0))
noncomputable def msI (m : SModule) (x : SMachine) (k : Nat) : Bool :=
  frB m (fOf x k) && (if k + 1 < x.Frames.length then ((atI m (fOf x k)).Op == 32 && (atI m (fOf x k)).A == (fOf x (k + 1)).Core) &&
      (!(decide ((x.Stack.length : Int) < (fOf x (k + 1)).Base)) && Go.IntKind.wrap .i64 ((fOf x (k + 1)).Base - (fOf x k).Base) == Go.IntKind.wrap .i64 ((frP m (fOf x k)).Height - (m.Cores.getD (fOf x (k + 1)).Core.toNat SCore.zero).Params))
    else Go.IntKind.wrap .i64 ((x.Stack.length : Int) - (fOf x k).Base) == Go.IntKind.wrap .i64 ((frP m (fOf x k)).Height - (x.Args.length : Int)))

theorem frames_s {m : SModule} (R : Ready m) {x : SMachine} (hn : x.Frames.length ≤ 1048576) : M.s_l18Frames_l0 (x.Frames.length : Int) m x bigN 0 = some (if (List.range x.Frames.length).all (msS m x) then .inr () else .inl false) :=
  all_loop (p := msS m x) (F := M.s_l18Frames_l0 (x.Frames.length : Int) m x) (e := ()) (b := false) x.Frames.length (by omega) (fun f k hk => by
    rw [M.s_l18Frames_l0]
    have hw : Go.IntKind.wrap .i64 ((k : Int) + 1) = ((k + 1 : Nat) : Int) := by rw [wrap_i64 (by omega) (by omega)]; rfl
    have hf : x.Frames.getD k SCoreFrame.zero = fOf x k := rfl
    have hf1 : x.Frames.getD (k + 1) SCoreFrame.zero = fOf x (k + 1) := rfl
    simp only [Int.ofNat_lt, hk, decide_true, cond_true, Int.toNat_natCast, hf, fr_s R, Option.getD_some, Option.isSome_some, inB_nat, Bool.and_self, Bool.and_true, Bool.true_and, hw, hf1]
    unfold msS
    cases hb : frB m (fOf x k)
    · simp only [Bool.false_eq_true, if_false, Bool.not_false, cond_true, Bool.false_and, cond_false]
    · simp only [if_true, Bool.not_true, cond_false, Bool.true_and, at_s hb, Option.getD_some, Option.isSome_some, Bool.and_self, cond_true, Bool.and_true]
      by_cases h1 : k + 1 < x.Frames.length
      · simp only [h1, decide_true, cond_true, if_true, Bool.true_or, Bool.and_self, Bool.and_true]
        by_cases ho : (atI m (fOf x k)).Op = 32
        · obtain ⟨⟨a1, a2⟩, -⟩ := at_call R hb ho
          have ha : inB (atI m (fOf x k)).A m.Cores.length = true := inB_int ⟨a1, a2⟩
          simp only [ho, ha, bne_self_eq_false, Bool.false_or, beq_self_eq_true, Bool.true_and, cond_true]
          by_cases hA : (atI m (fOf x k)).A = (fOf x (k + 1)).Core
          · simp only [hA, bne_self_eq_false, cond_false, beq_self_eq_true, Bool.true_and]
            simp only [bne]
            cases (Go.IntKind.wrap Go.IntKind.i64 ((fOf x (k + 1)).Base - (fOf x k).Base) == Go.IntKind.wrap Go.IntKind.i64 ((frP m (fOf x k)).Height - (m.Cores.getD (fOf x (k + 1)).Core.toNat SCore.zero).Params)) <;> rfl
          · rw [bne_iff_ne.2 hA, beq_eq_false_iff_ne.2 hA]; rfl
        · rw [bne_iff_ne.2 ho, beq_eq_false_iff_ne.2 ho]; rfl
      · rw [decide_eq_false h1, if_neg h1, cond_false]
        by_cases h2 : x.Status = 2
        · rw [if_pos h2, beq_iff_eq.2 h2, cond_true]
          by_cases ho : (atI m (fOf x k)).Op = 33
          · obtain ⟨⟨a1, a2⟩, -⟩ := at_host R hb ho
            have ha : inB (atI m (fOf x k)).A m.Imports.length = true := inB_int ⟨a1, a2⟩
            simp only [ho, ha, bne_self_eq_false, Bool.false_or, beq_self_eq_true, Bool.true_and, cond_true, Bool.true_or, Bool.and_self]
            simp only [bne]
            cases ((atI m (fOf x k)).A == x.Import) <;> cases ((x.Args.length : Int) == (m.Imports.getD (atI m (fOf x k)).A.toNat SImport.zero).Params) <;> cases (Go.IntKind.wrap Go.IntKind.i64 ((x.Stack.length : Int) - (fOf x k).Base) == Go.IntKind.wrap Go.IntKind.i64 ((frP m (fOf x k)).Height - (m.Imports.getD (atI m (fOf x k)).A.toNat SImport.zero).Params)) <;> rfl
          · rw [bne_iff_ne.2 ho, beq_eq_false_iff_ne.2 ho]; simp
        · rw [if_neg h2, beq_eq_false_iff_ne.2 h2, cond_false]
          simp only [bne]
          cases (Go.IntKind.wrap Go.IntKind.i64 ((x.Stack.length : Int) - (fOf x k).Base) == Go.IntKind.wrap Go.IntKind.i64 ((frP m (fOf x k)).Height - 0)) <;> rfl) (fun f => by rw [M.s_l18Frames_l0]; simp)

theorem frames_i {m : SModule} (R : Ready m) (bl : List (List SCodeBlock)) {x : SMachine} (hn : x.Frames.length ≤ 1048576) :
    M.i_code_framesOk_2_l0 (Scode.mk m ((List.range m.Cores.length).map (plOf m)) bl) x.Frames (x.Frames.length : Int) x bigN 0 = some (if (List.range x.Frames.length).all (msI m x) then .inr () else .inl false) :=
  all_loop (p := msI m x) (F := M.i_code_framesOk_2_l0 (Scode.mk m ((List.range m.Cores.length).map (plOf m)) bl) x.Frames (x.Frames.length : Int) x) (e := ()) (b := false) x.Frames.length (by omega) (fun f k hk => by
    rw [M.i_code_framesOk_2_l0]
    have hw : Go.IntKind.wrap .i64 ((k : Int) + 1) = ((k + 1 : Nat) : Int) := by rw [wrap_i64 (by omega) (by omega)]; rfl
    have hf : x.Frames.getD k SCoreFrame.zero = fOf x k := rfl
    have hf1 : x.Frames.getD (k + 1) SCoreFrame.zero = fOf x (k + 1) := rfl
    simp only [Int.ofNat_lt, hk, decide_true, cond_true, Int.toNat_natCast, hf, fr_i R, Option.getD_some, Option.isSome_some, inB_nat, Bool.and_self, Bool.and_true, Bool.true_and, hw, hf1]
    unfold msI
    cases hb : frB m (fOf x k)
    · simp only [Bool.not_false, cond_true, Bool.false_and, cond_false]
    · obtain ⟨c, j, hc, hc1, hj, hj1, -⟩ := frB_at hb
      have H := R.held hc1
      have hg : ((List.range m.Cores.length).map (plOf m)).getD (fOf x k).Core.toNat [] = plOf m c := by
        rw [hc, Int.toNat_natCast, List.getD_eq_getElem?_getD]; simp [hc1]
      have hP : (plOf m c).getD (fOf x k).PC.toNat SCodePlace.zero = frP m (fOf x k) := by unfold frP; rw [hc, Int.toNat_natCast]
      have hpc : inB (fOf x k).PC (plOf m c).length = true := by
        unfold coOf at hj1; rw [hc, Int.toNat_natCast] at hj1
        rw [hj, inB_nat, decide_eq_true_eq, H.len]; omega
      have hcc : inB (fOf x k).Core ((List.range m.Cores.length).map (plOf m)).length = true := by rw [hc, inB_nat, decide_eq_true_eq, List.length_map, List.length_range]; exact hc1
      simp only [Bool.not_true, cond_false, Bool.true_and, at_i hb, Option.getD_some, Option.isSome_some, Bool.and_self, cond_true, Bool.and_true, hg, hP, hpc, hcc, Bool.true_or]
      by_cases h1 : k + 1 < x.Frames.length
      · simp only [h1, decide_true, cond_true, if_true, Bool.true_or, Bool.and_self, Bool.and_true]
        by_cases ho : (atI m (fOf x k)).Op = 32
        · obtain ⟨⟨a1, a2⟩, -⟩ := at_call R hb ho
          simp only [ho, bne_self_eq_false, Bool.false_or, beq_self_eq_true, Bool.true_and]
          by_cases hA : (atI m (fOf x k)).A = (fOf x (k + 1)).Core
          · have ha : inB (fOf x (k + 1)).Core m.Cores.length = true := by rw [← hA]; exact inB_int ⟨a1, a2⟩
            simp only [hA, ha, bne_self_eq_false, cond_false, beq_self_eq_true, Bool.true_and, cond_true]
            simp only [bne]
            cases decide ((x.Stack.length : Int) < (fOf x (k + 1)).Base) <;> cases (Go.IntKind.wrap Go.IntKind.i64 ((fOf x (k + 1)).Base - (fOf x k).Base) == Go.IntKind.wrap Go.IntKind.i64 ((frP m (fOf x k)).Height - (m.Cores.getD (fOf x (k + 1)).Core.toNat SCore.zero).Params)) <;> rfl
          · rw [bne_iff_ne.2 hA, beq_eq_false_iff_ne.2 hA]; rfl
        · rw [bne_iff_ne.2 ho, beq_eq_false_iff_ne.2 ho]; rfl
      · rw [decide_eq_false h1, if_neg h1, cond_false, decide_eq_false (Nat.lt_irrefl _)]
        simp only [bne, Bool.false_or]
        cases (Go.IntKind.wrap Go.IntKind.i64 ((x.Stack.length : Int) - (fOf x k).Base) == Go.IntKind.wrap Go.IntKind.i64 ((frP m (fOf x k)).Height - (x.Args.length : Int))) <;> rfl) (fun f => by rw [M.i_code_framesOk_2_l0]; simp)
end M
/-
  MachineOk: both sides ask the same of the frames.
-/
set_option linter.unusedVariables false
set_option linter.unusedSimpArgs false
namespace M
open Go.V (inB slB bigN bigN_le)

structure XOk (x : SMachine) : Prop where
  st : x.Stack.length ≤ 1048576
  ar : x.Args.length ≤ 1048576
  fr : x.Frames.length ≤ 1048576
  ba : ∀ k, k < x.Frames.length → -9223372036854775808 ≤ (fOf x k).Base ∧ (fOf x k).Base ≤ 9223372036854775807

theorem par_c {m : SModule} (hm : MOk m) {a : Int} (h : 0 ≤ a ∧ a < (m.Cores.length : Int)) : 0 ≤ (m.Cores.getD a.toNat SCore.zero).Params := by
  have hl : a.toNat < m.Cores.length := by omega
  rw [getD_lt hl]; exact (hm.core _ (List.getElem_mem hl)).1.1
theorem par_i {m : SModule} (hm : MOk m) {a : Int} (h : 0 ≤ a ∧ a < (m.Imports.length : Int)) : 0 ≤ (m.Imports.getD a.toNat SImport.zero).Params := by
  have hl : a.toNat < m.Imports.length := by omega
  rw [getD_lt hl]; exact (hm.imp _ (List.getElem_mem hl)).1

theorem rise_all {m : SModule} (R : Ready m) {x : SMachine} (X : XOk x) (h12 : x.Frames.length ≤ 12) (h0 : (fOf x 0).Base = 0) (h1 : 1 ≤ x.Frames.length)
    (hfr : ∀ k, k < x.Frames.length → frB m (fOf x k) = true)
    (hup : ∀ k, k + 1 < x.Frames.length → (atI m (fOf x k)).Op = 32 ∧ Go.IntKind.wrap .i64 ((fOf x (k + 1)).Base - (fOf x k).Base) = Go.IntKind.wrap .i64 ((frP m (fOf x k)).Height - (m.Cores.getD (atI m (fOf x k)).A.toNat SCore.zero).Params))
    {L : Int} (hL : 0 ≤ L ∧ L ≤ (frP m (fOf x (x.Frames.length - 1))).Height)
    (hl : Go.IntKind.wrap .i64 ((x.Stack.length : Int) - (fOf x (x.Frames.length - 1)).Base) = Go.IntKind.wrap .i64 ((frP m (fOf x (x.Frames.length - 1))).Height - L)) :
    ∀ k, k < x.Frames.length → (fOf x k).Base ≤ (x.Stack.length : Int) := by
  have hd : ∀ k, k + 1 < x.Frames.length → 0 ≤ (frP m (fOf x k)).Height - (m.Cores.getD (atI m (fOf x k)).A.toNat SCore.zero).Params ∧ (frP m (fOf x k)).Height - (m.Cores.getD (atI m (fOf x k)).A.toNat SCore.zero).Params ≤ 24 := fun k hk => by
    have hf := hfr k (by omega)
    obtain ⟨a, b⟩ := at_call R hf (hup k hk).1
    have := par_c R.ok a
    have := fr_ht R hf
    omega
  have hdl := fr_ht R (hfr (x.Frames.length - 1) (by omega))
  refine bases_le (n := x.Frames.length) (b := fun k => (fOf x k).Base) (d := fun k => if k + 1 < x.Frames.length then (frP m (fOf x k)).Height - (m.Cores.getD (atI m (fOf x k)).A.toNat SCore.zero).Params else (frP m (fOf x k)).Height - L) (by omega) X.ba h0 (fun k hk => ?_) (fun k hk => ?_) (by have := X.st; omega) ?_
  · skip
    by_cases q : k + 1 < x.Frames.length
    · rw [if_pos q]; have := hd k q; omega
    · rw [if_neg q]
      have e : k = x.Frames.length - 1 := by omega
      rw [e]; omega
  · skip
    rw [if_pos hk, (hup k hk).2, wrap_i64 (by have := hd k hk; omega) (by have := hd k hk; omega)]
  · skip
    rw [if_neg (by omega), hl, wrap_i64 (by omega) (by omega)]

theorem all_range {n : Nat} {p : Nat → Bool} : (List.range n).all p = true ↔ ∀ k, k < n → p k = true := by
  simp [List.all_eq_true]
theorem same_run {m : SModule} (R : Ready m) {x : SMachine} (X : XOk x) (h12 : x.Frames.length ≤ 12) (h0 : (fOf x 0).Base = 0) (h1 : 1 ≤ x.Frames.length) (hst : x.Status ≠ 2) (ha : (x.Args.length : Int) = 0) :
    (List.range x.Frames.length).all (msS m x) = (List.range x.Frames.length).all (msI m x) := by
  rw [Bool.eq_iff_iff, all_range, all_range]
  constructor
  · intro h
    have hfr : ∀ k, k < x.Frames.length → frB m (fOf x k) = true := fun k hk => by
      have := h k hk; unfold msS at this; rw [Bool.and_eq_true] at this; exact this.1
    have hup : ∀ k, k + 1 < x.Frames.length → ((atI m (fOf x k)).Op = 32 ∧ (atI m (fOf x k)).A = (fOf x (k + 1)).Core) ∧ Go.IntKind.wrap .i64 ((fOf x (k + 1)).Base - (fOf x k).Base) = Go.IntKind.wrap .i64 ((frP m (fOf x k)).Height - (m.Cores.getD (atI m (fOf x k)).A.toNat SCore.zero).Params) := fun k hk => by
      have := h k (by omega); unfold msS at this; rw [if_pos hk] at this
      simp only [Bool.and_eq_true, beq_iff_eq] at this; exact this.2
    have hlast : Go.IntKind.wrap .i64 ((x.Stack.length : Int) - (fOf x (x.Frames.length - 1)).Base) = Go.IntKind.wrap .i64 ((frP m (fOf x (x.Frames.length - 1))).Height - 0) := by
      have := h (x.Frames.length - 1) (by omega); unfold msS at this; rw [if_neg (by omega), if_neg hst] at this
      simp only [Bool.and_eq_true, beq_iff_eq] at this; exact this.2
    have hle := rise_all R X h12 h0 h1 hfr (fun k hk => ⟨(hup k hk).1.1, (hup k hk).2⟩) (L := 0) ⟨Int.le_refl _, (fr_ht R (hfr (x.Frames.length - 1) (by omega))).1⟩ hlast
    intro k hk
    unfold msI
    rw [hfr k hk, Bool.true_and]
    by_cases q : k + 1 < x.Frames.length
    · have hu := hup k q
      rw [if_pos q]
      simp only [Bool.and_eq_true, beq_iff_eq, Bool.not_eq_true', decide_eq_false_iff_not]
      exact ⟨hu.1, by have := hle (k + 1) q; omega, by rw [hu.2, hu.1.2]⟩
    · rw [if_neg q, ha]
      have e : k = x.Frames.length - 1 := by omega
      rw [e, hlast]; simp
  · intro h k hk
    have := h k hk
    unfold msI at this; unfold msS
    by_cases q : k + 1 < x.Frames.length
    · rw [if_pos q] at this ⊢
      simp only [Bool.and_eq_true, beq_iff_eq] at this ⊢
      exact ⟨this.1, this.2.1, by rw [this.2.2.2, this.2.1.2]⟩
    · rw [if_neg q] at this
      rw [if_neg q, if_neg hst]
      rw [ha] at this; exact this
theorem same_host {m : SModule} (R : Ready m) {x : SMachine} (X : XOk x) (h12 : x.Frames.length ≤ 12) (h0 : (fOf x 0).Base = 0) (h1 : 1 ≤ x.Frames.length) (hst : x.Status = 2) :
    (List.range x.Frames.length).all (msS m x) = ((List.range x.Frames.length).all (msI m x) && (((atI m (fOf x (x.Frames.length - 1))).Op == 33 && (atI m (fOf x (x.Frames.length - 1))).A == x.Import) && (x.Args.length : Int) == (m.Imports.getD x.Import.toNat SImport.zero).Params)) := by
  rw [Bool.eq_iff_iff, Bool.and_eq_true, all_range, all_range]
  constructor
  · intro h
    have hfr : ∀ k, k < x.Frames.length → frB m (fOf x k) = true := fun k hk => by
      have := h k hk; unfold msS at this; rw [Bool.and_eq_true] at this; exact this.1
    have hup : ∀ k, k + 1 < x.Frames.length → ((atI m (fOf x k)).Op = 32 ∧ (atI m (fOf x k)).A = (fOf x (k + 1)).Core) ∧ Go.IntKind.wrap .i64 ((fOf x (k + 1)).Base - (fOf x k).Base) = Go.IntKind.wrap .i64 ((frP m (fOf x k)).Height - (m.Cores.getD (atI m (fOf x k)).A.toNat SCore.zero).Params) := fun k hk => by
      have := h k (by omega); unfold msS at this; rw [if_pos hk] at this
      simp only [Bool.and_eq_true, beq_iff_eq] at this; exact this.2
    have hlast := h (x.Frames.length - 1) (by omega)
    unfold msS at hlast; rw [if_neg (by omega), if_pos hst] at hlast
    simp only [Bool.and_eq_true, beq_iff_eq] at hlast
    obtain ⟨hf, ⟨⟨ho, hA⟩, hAr⟩, hw⟩ := hlast
    obtain ⟨c1, c2⟩ := at_host R hf ho
    have hle := rise_all R X h12 h0 h1 hfr (fun k hk => ⟨(hup k hk).1.1, (hup k hk).2⟩) ⟨par_i R.ok c1, c2⟩ hw
    refine ⟨fun k hk => ?_, ?_⟩
    · unfold msI
      rw [hfr k hk, Bool.true_and]
      by_cases q : k + 1 < x.Frames.length
      · have hu := hup k q
        rw [if_pos q]
        simp only [Bool.and_eq_true, beq_iff_eq, Bool.not_eq_true', decide_eq_false_iff_not]
        exact ⟨hu.1, by have := hle (k + 1) q; omega, by rw [hu.2, hu.1.2]⟩
      · rw [if_neg q]
        have e : k = x.Frames.length - 1 := by omega
        rw [e, hAr, hw]; simp
    · simp only [Bool.and_eq_true, beq_iff_eq]
      exact ⟨⟨ho, hA⟩, by rw [← hA]; exact hAr⟩
  · rintro ⟨h, hh⟩ k hk
    simp only [Bool.and_eq_true, beq_iff_eq] at hh
    have := h k hk
    unfold msI at this; unfold msS
    by_cases q : k + 1 < x.Frames.length
    · rw [if_pos q] at this ⊢
      simp only [Bool.and_eq_true, beq_iff_eq] at this ⊢
      exact ⟨this.1, this.2.1, by rw [this.2.2.2, this.2.1.2]⟩
    · rw [if_neg q] at this
      rw [if_neg q, if_pos hst]
      have e : k = x.Frames.length - 1 := by omega
      rw [e] at this ⊢
      simp only [Bool.and_eq_true, beq_iff_eq] at this ⊢
      refine ⟨this.1, ⟨hh.1, by rw [hh.1.2]; exact hh.2⟩, ?_⟩
      rw [hh.1.2, ← hh.2]; exact this.2
end M
/-
  MachineOk: the law.
-/
set_option linter.unusedVariables false
set_option linter.unusedSimpArgs false
namespace M
open Go.V (inB slB bigN bigN_le)
theorem framesOk_s {m : SModule} (R : Ready m) {x : SMachine} (hn : x.Frames.length ≤ 1048576) :
    M.s_l18Frames m x = some ((decide (1 ≤ x.Frames.length) && decide (x.Frames.length ≤ 12)) && (decide ((fOf x 0).Base = 0) && (List.range x.Frames.length).all (msS m x))) := by
  unfold M.s_l18Frames
  have hf : x.Frames.getD 0 SCoreFrame.zero = fOf x 0 := rfl
  rw [frames_s R hn]
  by_cases h : 1 ≤ x.Frames.length ∧ x.Frames.length ≤ 12
  · have q0 : (decide (((x.Frames.length : Int)) < (1 : Int)) || decide ((12 : Int) < ((x.Frames.length : Int)))) = false := by
      rw [Bool.or_eq_false_iff, decide_eq_false_iff_not, decide_eq_false_iff_not]; omega
    have hb : inB 0 x.Frames.length = true := inB_int ⟨Int.le_refl _, by omega⟩
    simp only [q0, Int.toNat_zero, hf, hb, Bool.false_or, Bool.true_or, Bool.and_self, cond_true, h.1, h.2, decide_true, Bool.true_and]
    by_cases hz : (fOf x 0).Base = 0
    · rw [hz]; simp only [bne_self_eq_false, cond_false, decide_true, Bool.true_and]
      cases (List.range x.Frames.length).all (msS m x) <;> rfl
    · rw [bne_iff_ne.2 hz, decide_eq_false hz]; rfl
  · have q0 : (decide (((x.Frames.length : Int)) < (1 : Int)) || decide ((12 : Int) < ((x.Frames.length : Int)))) = true := by
      rw [Bool.or_eq_true, decide_eq_true_eq, decide_eq_true_eq]; omega
    have q1 : (decide (1 ≤ x.Frames.length) && decide (x.Frames.length ≤ 12)) = false := by
      rw [Bool.eq_false_iff, ne_eq, Bool.and_eq_true, decide_eq_true_eq, decide_eq_true_eq]; exact h
    simp only [q0, q1, Bool.true_or, cond_true, Bool.false_and]
    simp
theorem framesOk_i {m : SModule} (R : Ready m) (bl : List (List SCodeBlock)) {x : SMachine} (hn : x.Frames.length ≤ 1048576) :
    M.i_code_framesOk_2 (Scode.mk m ((List.range m.Cores.length).map (plOf m)) bl) x = some ((decide (1 ≤ x.Frames.length) && decide (x.Frames.length ≤ 12)) && (decide ((fOf x 0).Base = 0) && (List.range x.Frames.length).all (msI m x))) := by
  unfold M.i_code_framesOk_2
  have hf : x.Frames.getD 0 SCoreFrame.zero = fOf x 0 := rfl
  rw [frames_i R bl hn]
  have q : (decide ((1 : Int) ≤ (x.Frames.length : Int)) && decide ((x.Frames.length : Int) ≤ 12)) = (decide (1 ≤ x.Frames.length) && decide (x.Frames.length ≤ 12)) := by
    congr 1 <;> (rw [decide_eq_decide]; omega)
  by_cases h : 1 ≤ x.Frames.length ∧ x.Frames.length ≤ 12
  · have hb : inB 0 x.Frames.length = true := inB_int ⟨Int.le_refl _, by omega⟩
    simp only [q, Int.toNat_zero, hf, hb, Bool.true_or, Bool.and_self, cond_true, h.1, h.2, decide_true, Bool.true_and, Bool.not_true, Bool.false_or]
    by_cases hz : (fOf x 0).Base = 0
    · rw [hz]; simp only [bne_self_eq_false, cond_false, decide_true, Bool.true_and]
      cases (List.range x.Frames.length).all (msI m x) <;> rfl
    · rw [bne_iff_ne.2 hz, decide_eq_false hz]; rfl
  · have q1 : (decide (1 ≤ x.Frames.length) && decide (x.Frames.length ≤ 12)) = false := by
      rw [Bool.eq_false_iff, ne_eq, Bool.and_eq_true, decide_eq_true_eq, decide_eq_true_eq]; exact h
    simp only [q, q1, Bool.not_false, Bool.true_or, cond_true, Bool.false_and]
    simp
end M
/-
  MachineOk: the law.
-/
set_option linter.unusedVariables false
set_option linter.unusedSimpArgs false
namespace M
open Go.V (inB slB bigN bigN_le)

theorem bigN_succ : ∃ f, bigN = f + 1 := ⟨bigN - 1, by have := bigN_le; omega⟩
theorem eqNil (l : List Int) : M.slices_Equal_int64_int64 l [] = some (decide (l.length = 0)) := by
  cases l with
  | nil =>
    obtain ⟨f, hf⟩ := bigN_succ
    unfold M.slices_Equal_int64_int64
    rw [hf, M.slices_Equal_int64_int64_l0]; simp
  | cons a r =>
    unfold M.slices_Equal_int64_int64
    rw [bne_iff_ne.2 (by simp; omega), cond_true]; simp
theorem eqFNil (l : List SCoreFrame) : M.slices_EqualFunc_CoreFrame_CoreFrame_CoreFrame_CoreFrame l [] = some (decide (l.length = 0)) := by
  cases l with
  | nil =>
    obtain ⟨f, hf⟩ := bigN_succ
    unfold M.slices_EqualFunc_CoreFrame_CoreFrame_CoreFrame_CoreFrame
    rw [hf, M.slices_EqualFunc_CoreFrame_CoreFrame_CoreFrame_CoreFrame_l0]; simp
  | cons a r =>
    unfold M.slices_EqualFunc_CoreFrame_CoreFrame_CoreFrame_CoreFrame
    rw [bne_iff_ne.2 (by simp; omega), cond_true]; simp
theorem same_i (x : SMachine) (s r t : Int) : M.i_SameMachine x (SMachine.mk s [] [] 0 [] r t) = some (((((x.Status == s && decide (x.Stack.length = 0)) && x.Import == 0) && decide (x.Args.length = 0)) && x.Result == r && x.Trap == t) && decide (x.Frames.length = 0)) := by
  unfold M.i_SameMachine
  simp only [eqNil, eqFNil, Option.getD_some, Option.isSome_some, Bool.true_or, Bool.and_self, Bool.and_true, cond_true]

theorem len0 (n : Nat) : (((n : Int)) == (0 : Int)) = decide (n = 0) := by
  rw [Bool.eq_iff_iff]; simp

theorem machine_same {m : SModule} (R : Ready m) (bl : List (List SCodeBlock)) {x : SMachine} (X : XOk x) :
    ∃ r, M.i_code_machineOk_2 (Scode.mk m ((List.range m.Cores.length).map (plOf m)) bl) x = some r ∧ M.s_l18Right m x = some r := by
  unfold M.i_code_machineOk_2 M.s_l18Right
  rw [framesOk_s R X.fr, framesOk_i R bl X.fr]
  by_cases h1 : x.Status = 1
  · rw [beq_iff_eq.2 h1]
    simp only [cond_true, Option.getD_some, Option.isSome_some, Bool.true_or, Bool.and_self]
    refine ⟨_, rfl, ?_⟩
    congr 1
    by_cases ha : (x.Args.length : Int) = 0
    · congr 1
      by_cases h : (1 ≤ x.Frames.length ∧ x.Frames.length ≤ 12) ∧ (fOf x 0).Base = 0
      · rw [same_run R X h.1.2 h.2 h.1.1 (by omega) ha]
      · cases q : (decide (1 ≤ x.Frames.length) && decide (x.Frames.length ≤ 12))
        · rfl
        · cases q2 : decide ((fOf x 0).Base = 0)
          · rfl
          · exfalso; apply h
            simp only [Bool.and_eq_true, decide_eq_true_eq] at q q2
            exact ⟨q, q2⟩
    · rw [beq_eq_false_iff_ne.2 ha]; simp
  · rw [beq_eq_false_iff_ne.2 h1]
    simp only [cond_false]
    by_cases h2 : x.Status = 2
    · rw [beq_iff_eq.2 h2]
      simp only [cond_true, Option.getD_some, Option.isSome_some, Bool.true_or, Bool.and_self]
      have hq : (x.Result != 0 || x.Trap != 0) = !((x.Result == 0) && (x.Trap == 0)) := by simp [bne]
      rw [hq]
      cases h0 : ((x.Result == 0) && (x.Trap == 0))
      · exact ⟨false, by simp, by simp⟩
      · simp only [Bool.not_true, Bool.false_or, Bool.true_and]
        by_cases h : (1 ≤ x.Frames.length ∧ x.Frames.length ≤ 12) ∧ (fOf x 0).Base = 0
        · rw [same_host R X h.1.2 h.2 h.1.1 h2]
          simp only [h.1.1, h.1.2, h.2, decide_true, Bool.true_and, Bool.and_self]
          cases hI : (List.range x.Frames.length).all (msI m x)
          · exact ⟨false, by simp, by simp⟩
          · have hf : frB m (fOf x (x.Frames.length - 1)) = true := by
              have := all_range.1 hI (x.Frames.length - 1) (by omega)
              unfold msI at this; rw [Bool.and_eq_true] at this; exact this.1
            have hw : Go.IntKind.wrap .i64 ((x.Frames.length : Int) - 1) = ((x.Frames.length - 1 : Nat) : Int) := by
              rw [wrap_i64 (by omega) (by omega)]; omega
            have hfo : x.Frames.getD (x.Frames.length - 1) SCoreFrame.zero = fOf x (x.Frames.length - 1) := rfl
            have hb : decide (x.Frames.length - 1 < x.Frames.length) = true := by rw [decide_eq_true_eq]; omega
            refine ⟨_, ?_, rfl⟩
            simp only [hw, Int.toNat_natCast, hfo, at_i hf, Option.getD_some, Option.isSome_some, inB_nat, hb, Bool.not_true, cond_false, Bool.true_and, Bool.and_self, Bool.and_true]
            by_cases ho : (atI m (fOf x (x.Frames.length - 1))).Op = 33 ∧ (atI m (fOf x (x.Frames.length - 1))).A = x.Import
            · obtain ⟨c1, -⟩ := at_host R hf ho.1
              rw [ho.2] at c1
              have hi : inB x.Import m.Imports.length = true := inB_int c1
              rw [hi]; rfl
            · have : ((atI m (fOf x (x.Frames.length - 1))).Op == 33 && (atI m (fOf x (x.Frames.length - 1))).A == x.Import) = false := by
                rw [Bool.eq_false_iff, ne_eq, Bool.and_eq_true, beq_iff_eq, beq_iff_eq]; exact ho
              rw [this]; simp
        · have q : ((decide (1 ≤ x.Frames.length) && decide (x.Frames.length ≤ 12)) && decide ((fOf x 0).Base = 0)) = false := by
            rw [Bool.eq_false_iff, ne_eq]
            simp only [Bool.and_eq_true, decide_eq_true_eq]; exact h
          have qI : ∀ z, ((decide (1 ≤ x.Frames.length) && decide (x.Frames.length ≤ 12)) && (decide ((fOf x 0).Base = 0) && z)) = false := fun z => by rw [← Bool.and_assoc, q]; rfl
          simp only [qI]
          exact ⟨false, rfl, rfl⟩
    · rw [beq_eq_false_iff_ne.2 h2]
      simp only [cond_false]
      by_cases h3 : x.Status = 3
      · rw [beq_iff_eq.2 h3]
        simp only [cond_true, same_i, M.s_l18Ended, Option.getD_some, Option.isSome_some, Bool.and_self, len0]
        refine ⟨_, rfl, ?_⟩
        rw [beq_iff_eq.2 h3, beq_self_eq_true]
        congr 1
        cases decide (x.Stack.length = 0) <;> cases (x.Import == 0) <;> cases decide (x.Args.length = 0) <;> cases (x.Trap == 0) <;> cases decide (x.Frames.length = 0) <;> rfl
      · rw [beq_eq_false_iff_ne.2 h3]
        simp only [cond_false]
        by_cases h4 : x.Status = 4
        · rw [beq_iff_eq.2 h4]
          simp only [cond_true, same_i, M.s_l18Ended, Option.getD_some, Option.isSome_some, Bool.and_self, len0]
          refine ⟨_, rfl, ?_⟩
          rw [beq_iff_eq.2 h4, beq_self_eq_true]
          congr 1
          cases decide (x.Stack.length = 0) <;> cases (x.Import == 0) <;> cases decide (x.Args.length = 0) <;> cases (x.Result == 0) <;> cases decide (x.Frames.length = 0) <;> rfl
        · rw [beq_eq_false_iff_ne.2 h4]
          exact ⟨false, rfl, rfl⟩
end M
/-
  MachineOk: the law.
-/
set_option linter.unusedVariables false
set_option linter.unusedSimpArgs false
namespace M
open Go.V (inB slB bigN bigN_le)
noncomputable def badAt (m : SModule) : Bool := m.Cores.all fun c => (coreR m c).2.2 == 0

theorem chk_iff (m : SModule) : ((chkR m).2.2 == 0) = (mOkB m && badAt m) := by
  unfold chkR badAt
  cases hb : mOkB m
  · rfl
  · rw [if_pos rfl, Bool.true_and]
    unfold modR
    cases hf : m.Cores.findIdx? (fun c => (coreR m c).2.2 != 0) with
    | none =>
      rw [List.findIdx?_eq_none_iff] at hf
      symm; rw [show ((0 : Int), (0 : Int), (0 : Int)).2.2 == 0 from rfl]
      rw [List.all_eq_true]; intro c hc
      have := hf c hc
      rw [Bool.eq_false_iff, ne_eq, bne_iff_ne, Decidable.not_not] at this
      rw [this]; rfl
    | some k =>
      rw [List.findIdx?_eq_some_iff_getElem] at hf
      obtain ⟨hk, hp, -⟩ := hf
      show ((coreR m (m.Cores.getD k SCore.zero)).2.2 == 0) = _
      rw [getD_lt hk]
      have hne : ((coreR m m.Cores[k]).2.2 == 0) = false := by rw [beq_eq_false_iff_ne]; exact bne_iff_ne.1 hp
      rw [hne]; symm
      rw [List.all_eq_false]
      exact ⟨m.Cores[k], List.getElem_mem hk, by rw [hne]; simp⟩

theorem ready_of {m : SModule} (h : mOkB m = true) (h2 : badAt m = true) : Ready m := ⟨mOk_of h, fun k hk => by
  unfold badAt at h2
  have := List.all_eq_true.1 h2 _ (List.getElem_mem hk)
  simpa using this⟩
theorem code_loop {m : SModule} (hm : MOk m) {F : Nat → Int → List (List SCodePlace) → List (List SCodeBlock) → Option (Bool ⊕ (Int × List SImport × List SCore × List (List SCodePlace) × List (List SCodeBlock)))}
    (step : ∀ f (k : Nat) o4 o5 bl, k < m.Cores.length → o4.length = k → o5.length = k → M.i_checked m (k : Int) = some (plOf m k, bl, (coreR m (m.Cores.getD k SCore.zero)).2) →
      F (f + 1) (k : Int) o4 o5 = bif (coreR m (m.Cores.getD k SCore.zero)).2.2 != 0 then some (.inl false) else F f ((k + 1 : Nat) : Int) (o4 ++ [plOf m k]) (o5 ++ [bl]))
    (stop : ∀ f o4 o5, F (f + 1) (m.Cores.length : Int) o4 o5 = some (.inr (m.Pages, m.Imports, m.Cores, o4, o5))) :
    ∀ n k f o5, k + n = m.Cores.length → n < f → o5.length = k → (∀ j, j < k → (coreR m (m.Cores.getD j SCore.zero)).2.2 = 0) →
      (badAt m = true → ∃ bl, F f (k : Int) ((List.range k).map (plOf m)) o5 = some (.inr (m.Pages, m.Imports, m.Cores, (List.range m.Cores.length).map (plOf m), bl))) ∧
      (badAt m = false → F f (k : Int) ((List.range k).map (plOf m)) o5 = some (.inl false)) := by
  intro n
  induction n with
  | zero =>
    intro k f o5 hk hf ho hgood
    obtain ⟨f, rfl⟩ : ∃ g, f = g + 1 := ⟨f - 1, by omega⟩
    have e : k = m.Cores.length := by omega
    subst e
    refine ⟨fun _ => ⟨o5, stop _ _ _⟩, fun hb => ?_⟩
    exfalso
    unfold badAt at hb
    rw [List.all_eq_false] at hb
    obtain ⟨c, hc, hx⟩ := hb
    obtain ⟨j, hj, rfl⟩ := List.mem_iff_getElem.1 hc
    have := hgood j hj
    rw [getD_lt hj] at this
    rw [this] at hx; exact hx rfl
  | succ n ih =>
    intro k f o5 hk hf ho hgood
    obtain ⟨f, rfl⟩ : ∃ g, f = g + 1 := ⟨f - 1, by omega⟩
    have hkl : k < m.Cores.length := by omega
    obtain ⟨bl, hb⟩ := core_i_eq hm hkl
    have hb' : M.i_checked m (k : Int) = some (plOf m k, bl, (coreR m (m.Cores.getD k SCore.zero)).2) := by rw [hb]; unfold plOf; rw [getD_lt hkl]
    rw [step f k _ o5 bl hkl (by simp) ho hb']
    by_cases hg : (coreR m (m.Cores.getD k SCore.zero)).2.2 = 0
    · rw [show ((coreR m (m.Cores.getD k SCore.zero)).2.2 != 0) = false by rw [hg]; rfl, cond_false]
      have e : (List.range k).map (plOf m) ++ [plOf m k] = (List.range (k + 1)).map (plOf m) := by rw [List.range_succ, List.map_append]; rfl
      rw [e]
      exact ih (k + 1) f _ (by omega) (by omega) (by simp [ho]) (fun j hj => by
        rcases Nat.lt_or_ge j k with h | h
        · exact hgood j h
        · have : j = k := by omega
          rw [this]; exact hg)
    · rw [bne_iff_ne.2 hg, cond_true]
      refine ⟨fun hb => ?_, fun _ => rfl⟩
      exfalso; apply hg
      unfold badAt at hb
      have := List.all_eq_true.1 hb _ (List.getElem_mem hkl)
      rw [getD_lt hkl]; simpa using this
end M
/-
  MachineOk: the law.
-/
set_option linter.unusedVariables false
set_option linter.unusedSimpArgs false
namespace M
open Go.V (inB slB bigN bigN_le)

theorem loop_a {m : SModule} (hm : MOk m) : (badAt m = true → ∃ bl, M.i_codeOf_a_l0 (m.Cores.length : Int) m m.Pages m.Imports m.Cores bigN 0 [] [] = some (.inr (m.Pages, m.Imports, m.Cores, (List.range m.Cores.length).map (plOf m), bl))) ∧
    (badAt m = false → M.i_codeOf_a_l0 (m.Cores.length : Int) m m.Pages m.Imports m.Cores bigN 0 [] [] = some (.inl false)) := by
  have hc := hm.cores
  refine code_loop hm (F := fun f k o4 o5 => M.i_codeOf_a_l0 (m.Cores.length : Int) m m.Pages m.Imports m.Cores f k o4 o5) (fun f k o4 o5 bl hk h4 h5 hb => ?_) (fun f o4 o5 => ?_) m.Cores.length 0 bigN [] (by omega) (by have := bigN_le; omega) rfl (fun j hj => by omega)
  · show M.i_codeOf_a_l0 (m.Cores.length : Int) m m.Pages m.Imports m.Cores (f + 1) (k : Int) o4 o5 = _
    rw [M.i_codeOf_a_l0]
    have hw : Go.IntKind.wrap .i64 ((k : Int) + 1) = ((k + 1 : Nat) : Int) := by rw [wrap_i64 (by omega) (by omega)]; rfl
    have d1 : decide (k + ([bl] : List (List SCodeBlock)).length ≤ 1073741824) = true := by rw [decide_eq_true_eq]; simp only [List.length_cons, List.length_nil]; omega
    have d2 : decide (k + ([plOf m k] : List (List SCodePlace)).length ≤ 1073741824) = true := by rw [decide_eq_true_eq]; simp only [List.length_cons, List.length_nil]; omega
    simp only [Int.ofNat_lt, hk, decide_true, cond_true, hb, Option.getD_some, Option.isSome_some, Bool.and_self, h4, h5, d1, d2, hw]
  · show M.i_codeOf_a_l0 (m.Cores.length : Int) m m.Pages m.Imports m.Cores (f + 1) (m.Cores.length : Int) o4 o5 = _
    rw [M.i_codeOf_a_l0]; simp
theorem loop_w {m : SModule} (hm : MOk m) : (badAt m = true → ∃ bl, M.i_codeOf_w_l0 (m.Cores.length : Int) m m.Pages m.Imports m.Cores bigN 0 [] [] = some (.inr (m.Pages, m.Imports, m.Cores, (List.range m.Cores.length).map (plOf m), bl))) ∧
    (badAt m = false → M.i_codeOf_w_l0 (m.Cores.length : Int) m m.Pages m.Imports m.Cores bigN 0 [] [] = some (.inl false)) := by
  have hc := hm.cores
  refine code_loop hm (F := fun f k o4 o5 => M.i_codeOf_w_l0 (m.Cores.length : Int) m m.Pages m.Imports m.Cores f k o4 o5) (fun f k o4 o5 bl hk h4 h5 hb => ?_) (fun f o4 o5 => ?_) m.Cores.length 0 bigN [] (by omega) (by have := bigN_le; omega) rfl (fun j hj => by omega)
  · show M.i_codeOf_w_l0 (m.Cores.length : Int) m m.Pages m.Imports m.Cores (f + 1) (k : Int) o4 o5 = _
    rw [M.i_codeOf_w_l0]
    have hw : Go.IntKind.wrap .i64 ((k : Int) + 1) = ((k + 1 : Nat) : Int) := by rw [wrap_i64 (by omega) (by omega)]; rfl
    have d1 : decide (k + ([bl] : List (List SCodeBlock)).length ≤ 1073741824) = true := by rw [decide_eq_true_eq]; simp only [List.length_cons, List.length_nil]; omega
    have d2 : decide (k + ([plOf m k] : List (List SCodePlace)).length ≤ 1073741824) = true := by rw [decide_eq_true_eq]; simp only [List.length_cons, List.length_nil]; omega
    simp only [Int.ofNat_lt, hk, decide_true, cond_true, hb, Option.getD_some, Option.isSome_some, Bool.and_self, h4, h5, d1, d2, hw]
  · show M.i_codeOf_w_l0 (m.Cores.length : Int) m m.Pages m.Imports m.Cores (f + 1) (m.Cores.length : Int) o4 o5 = _
    rw [M.i_codeOf_w_l0]; simp

theorem codeOf_a (m : SModule) (h : m.sz ≤ 1048576) : M.i_codeOf_a m = some (mOkB m && badAt m) := by
  unfold M.i_codeOf_a
  rw [shape_m_i m h]
  cases hb : mOkB m
  · rfl
  · simp only [Option.getD_some, Option.isSome_some, Bool.not_true, cond_false, Bool.and_self, cond_true, Bool.true_and]
    cases hx : badAt m
    · rw [(loop_a (mOk_of hb)).2 hx]
    · obtain ⟨bl, hl⟩ := (loop_a (mOk_of hb)).1 hx
      rw [hl]
theorem codeOf_w {m : SModule} (h : m.sz ≤ 1048576) (hb : mOkB m = true) (hx : badAt m = true) : ∃ bl, M.i_codeOf_w m = some (true, m.Pages, m.Imports, m.Cores, (List.range m.Cores.length).map (plOf m), bl) := by
  unfold M.i_codeOf_w
  rw [shape_m_i m h, hb]
  obtain ⟨bl, hl⟩ := (loop_w (mOk_of hb)).1 hx
  refine ⟨bl, ?_⟩
  simp only [Option.getD_some, Option.isSome_some, Bool.not_true, cond_false, Bool.and_self, cond_true, hl]

theorem right_s (m : SModule) (h : m.sz ≤ 1048576) : M.s_l16Right m = some (mOkB m && badAt m) := by
  unfold M.s_l16Right
  rw [l16_s m h]
  simp only [Option.getD_some, Option.isSome_some, Bool.and_self, cond_true, chk_iff]

theorem same_ok (m : SModule) (h : m.sz ≤ 1048576) (x : SMachine) (X : XOk x) : ∃ r, M.i_MachineOk m x = some r ∧ M.s_MachineOk m x = some r := by
  unfold M.i_MachineOk M.i_MachineOk_a M.s_MachineOk
  rw [codeOf_a m h, right_s m h]
  cases hq : mOkB m && badAt m
  · exact ⟨false, by simp, by simp⟩
  · rw [Bool.and_eq_true] at hq
    have R := ready_of hq.1 hq.2
    obtain ⟨bl, hw⟩ := codeOf_w h hq.1 hq.2
    obtain ⟨r, h1, h2⟩ := machine_same R bl X
    refine ⟨r, ?_, ?_⟩
    · have hz : M.i_code_machineOk_z x = none := rfl
      have hw' : M.i_MachineOk_w m x = some r := by
        unfold M.i_MachineOk_w
        rw [hw]
        simp only [Option.getD_some]
        have e : SModule.mk m.Pages m.Imports m.Cores = m := rfl
        rw [e, h1]; simp
      rw [hz, hw']
      simp
    · rw [h2]; simp

theorem law_MachineOk (m : SModule) (x : SMachine) (hm : m.Ok) (hx : x.Ok) : M.l_FnExactMachineOk m x = some true := by
  unfold M.l_FnExactMachineOk
  rw [sz_Module m 1048576 hm (by omega) (by omega)]
  by_cases h1 : (m.sz : Int) ≤ 1048576
  · have h : m.sz ≤ 1048576 := by omega
    have n1 : ¬ (1048576 - (m.sz : Int) < 0) := by omega
    rw [if_pos h1]
    simp only [Option.getD_some, n1, decide_false, cond_false]
    have qs := sz_Machine x (1048576 - (m.sz : Int)) hx (by omega) (by omega)
    by_cases h2 : (x.sz : Int) ≤ 1048576 - (m.sz : Int)
    · have h' : x.sz ≤ 1048576 := by omega
      have n2 : ¬ (1048576 - (m.sz : Int) - (x.sz : Int) < 0) := by omega
      rw [if_pos h2] at qs
      have hsz := h'
      rw [SMachine.sz_eq] at hsz
      have X : XOk x := ⟨Nat.le_trans (szL_len (fun _ => 0) x.Stack) (by omega), Nat.le_trans (szL_len (fun _ => 0) x.Args) (by omega), Nat.le_trans (szL_len SCoreFrame.sz x.Frames) (by omega), fun k hk => by
        have hxx := hx
        rw [SMachine.ok_eq] at hxx
        have hf := hxx.2.1.2 (fOf x k) (by unfold fOf; rw [getD_lt hk]; exact List.getElem_mem hk)
        rw [SCoreFrame.ok_eq] at hf
        exact hf.2.2.1⟩
      obtain ⟨r, e1, e2⟩ := same_ok m h x X
      have q0 := to_Module m h
      have q1 := to_Machine x h'
      have q8 : SModule.mk m.Pages m.Imports m.Cores = m := rfl
      have q9 : SMachine.mk x.Status x.Frames x.Stack x.Import x.Args x.Result x.Trap = x := rfl
      have q6 := eq_Module m h
      have q7 := eq_Machine x h'
      simp only [qs, q0, q1, q8, q9, e1, e2, q6, q7, Option.getD_some, Option.isSome_some, n2, decide_false, cond_false, Bool.and_true, Bool.and_self, Bool.true_and, cond_true, beq_self_eq_true, Bool.not_true]
    · rw [if_neg h2] at qs
      simp only [qs]; simp
  · rw [if_neg h1]; simp
end M
