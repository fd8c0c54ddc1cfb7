/-
  ONE STEP of the check, as the program takes it.
-/
import Derived.Test.YtlnailoffdmkiaaGreatXTNX
import Derived.Test.YtlnailoffdmkiaaGreatXZpl5
import Derived.Test.YtlnailoffdmkiaaGreatXTGH
import Derived.Test.YtlnailoffdmkiaaGreatXZpl3
set_option linter.unusedVariables false
set_option linter.unusedSimpArgs false
namespace M
open Go.V (inB slB bigN bigN_le)

abbrev RI := Int × List SImport × List SCore × List UInt8 × Int × Int × Bool × List SIns × List SCodeBlock × Int × Int × Bool × List Int × List Int
def stI (m : SModule) (c : SCore) (bl : List SCodeBlock) (s : CSt) : RI := (m.Pages, m.Imports, m.Cores, c.Name, c.Params, c.Locals, c.Result, c.Code, bl, s.nxt, s.h, s.kn, s.op, s.ba)

theorem turn_i {m : SModule} {c : SCore} {P : List (Int × Bool)} {s : CSt} {bl : List SCodeBlock} (hb : bl.map pr = P) (hi : SIn P s) (h0 : s.op.length ≠ 0) (hbl : 0 ≤ baseP s ∧ baseP s ≤ 24) (i : SIns) (ht : i.Op = 27 ∨ i.Op = 28) :
    ∃ y : Int × RI, M.i_checker_turn i m.Pages m.Imports m.Cores c.Name c.Params c.Locals c.Result c.Code bl s.nxt s.h s.kn s.op s.ba = some y ∧ (match cStep m c P i s with
      | .inl x => y.1 = x
      | .inr s' => y = (0, stI m c bl s')) := by
  have hj : s.op.length - 1 < s.op.length := by omega
  obtain ⟨h1, h2⟩ := hi.at_ hj
  have hl : bl.length = P.length := by rw [← hb, List.length_map]
  have er : (bl.getD (s.op.getD (s.op.length - 1) 0).toNat SCodeBlock.zero).Result = (topP P s).2 := by
    unfold topP; rw [← hb, pr_getD]; rfl
  have hin : inB (s.op.getD (s.op.length - 1) 0) bl.length = true := by rw [← h2, inB_nat, decide_eq_true_eq, hl]; exact h1
  have hbit := bitI_le (topP P s).2
  have hsl : slB (0 : Int) ((s.op.length - 1 : Nat) : Int) s.op.length = true := by unfold slB; simp
  have hsl2 : slB (0 : Int) ((s.op.length - 1 : Nat) : Int) s.ba.length = true := by rw [hi.len]; exact hsl
  have hw : Go.IntKind.wrap .i64 (baseP s + bitI (topP P s).2) = baseP s + bitI (topP P s).2 := wrap_i64 (by omega) (by omega)
  have hbase := base_i s (by rw [hi.len]; exact hi.six) m c bl
  unfold cStep
  rw [if_pos ht]
  unfold M.i_checker_turn
  simp only [eta_m, eta_c, hbase, wrap_len h0 hi.six, Int.toNat_natCast, er, bit_i, Option.getD_some, Option.isSome_some, hw, hin, inB_nat, hj, decide_true, Bool.true_or, Bool.and_self, Bool.and_true, cond_true, hsl, hsl2]
  by_cases hc : s.kn = true ∧ s.h ≠ baseP s + bitI (topP P s).2
  · have q : (s.kn && (s.h != baseP s + bitI (topP P s).2)) = true := by rw [Bool.and_eq_true, bne_iff_ne]; exact hc
    rw [if_pos hc, q]
    exact ⟨_, rfl, rfl⟩
  · have q : (s.kn && (s.h != baseP s + bitI (topP P s).2)) = false := by rw [Bool.eq_false_iff, ne_eq, Bool.and_eq_true, bne_iff_ne]; exact hc
    rw [if_neg hc, q, cond_false]
    by_cases h27 : i.Op = 27
    · have q27 : (i.Op == 27) = true := by rw [beq_iff_eq]; exact h27
      rw [if_pos h27, q27, cond_true]
      exact ⟨_, rfl, rfl⟩
    · have q27 : (i.Op == 27) = false := by rw [beq_eq_false_iff_ne]; exact h27
      rw [if_neg h27, q27, cond_false]
      by_cases h24 : 24 < baseP s + bitI (topP P s).2
      · rw [if_pos h24]
        simp only [decide_eq_true h24, cond_true]
        exact ⟨_, rfl, rfl⟩
      · rw [if_neg h24]
        simp only [decide_eq_false h24, cond_false]
        exact ⟨_, rfl, by simp only [stI, hi.len]⟩

theorem step_i {m : SModule} {c : SCore} {P : List (Int × Bool)} {e : Int} {k : Nat} {i : SIns} {B B' : BS} {s : CSt} {bl : List SCodeBlock} (h : At_ m c P e k i B B' s) (hb : bl.map pr = P) :
    ∃ y : Int × RI, M.i_checker_step i m.Pages m.Imports m.Cores c.Name c.Params c.Locals c.Result c.Code bl s.nxt s.h s.kn s.op s.ba = some y ∧ (match cStep m c P i s with
      | .inl x => y.1 = x
      | .inr s' => y = (0, stI m c bl s')) := by
  obtain ⟨hi, hle⟩ := h.sin
  obtain ⟨hop, hA⟩ := h.op
  have hbl := baseP_le h.cinv
  unfold M.i_checker_step
  simp only [eta_m, eta_c]
  by_cases ht : i.Op = 27 ∨ i.Op = 28
  · have h0 := h.open_ ht
    have qt : (i.Op == 27 || i.Op == 28) = true := by rw [Bool.or_eq_true, beq_iff_eq, beq_iff_eq]; exact ht
    obtain ⟨y, hy, hc⟩ := turn_i (m := m) (c := c) hb hi h0 hbl i ht
    rw [qt, cond_true, hy]
    exact ⟨y, rfl, hc⟩
  · have qt : (i.Op == 27 || i.Op == 28) = false := by rw [Bool.eq_false_iff, ne_eq, Bool.or_eq_true, beq_iff_eq, beq_iff_eq]; exact ht
    have hcore := h.mok.core c h.core
    unfold cStep
    rw [if_neg ht, qt, cond_false]
    by_cases hkn : s.kn = false
    · rw [if_pos hkn, hkn]
      exact ⟨_, rfl, rfl⟩
    · have hkn' : s.kn = true := by simpa using hkn
      rw [if_neg hkn]
      simp only [exists_i m c bl i s hcore.1 hcore.2.1 hop, Option.getD_some, Option.isSome_some, Bool.and_self, Bool.true_and, cond_true]
      rw [show (!s.kn) = false by rw [hkn']; rfl, cond_false]
      by_cases hth : thereP m c i s = false
      · rw [if_pos hth, hth]
        exact ⟨_, rfl, rfl⟩
      · have hth' : thereP m c i s = true := by simpa using hth
        rw [if_neg hth, hth']
        have htk := takeP_le h.mok i
        have hst := h.cinv.h
        simp only [Bool.not_true, cond_false, effect_i m c bl i s hop hA ⟨fun q => ht (.inl q), fun q => ht (.inr q)⟩ hth', base_i s (by rw [hi.len]; exact hi.six) m c bl, carried_i h.pin hb hi i hA hth', Option.getD_some, Option.isSome_some, Bool.and_self, Bool.true_and, cond_true]
        have w1 : Go.IntKind.wrap .i64 (s.h - (takeP m i).1) = s.h - (takeP m i).1 := wrap_i64 (by omega) (by omega)
        have w2 : Go.IntKind.wrap .i64 (s.h - (takeP m i).1 + (takeP m i).2) = s.h - (takeP m i).1 + (takeP m i).2 := wrap_i64 (by omega) (by omega)
        rw [w1, w2]
        by_cases hbs : s.h - (takeP m i).1 < baseP s
        · rw [if_pos hbs, decide_eq_true hbs]
          exact ⟨_, rfl, rfl⟩
        · rw [if_neg hbs, decide_eq_false hbs, cond_false]
          by_cases h24 : 24 < s.h - (takeP m i).1 + (takeP m i).2
          · rw [if_pos h24, decide_eq_true h24]
            exact ⟨_, rfl, rfl⟩
          · rw [if_neg h24, decide_eq_false h24, cond_false]
            have hnb : 0 ≤ needP c P i s ∧ needP c P i s ≤ 1 := by
              unfold needP
              repeat' split
              · exact bitI_le _
              · exact bitI_le _
              · exact bitI_le _
              · omega
            have w3 : Go.IntKind.wrap .i64 (s.h - (takeP m i).1 + (takeP m i).2 - needP c P i s) = s.h - (takeP m i).1 + (takeP m i).2 - needP c P i s := wrap_i64 (by omega) (by omega)
            rw [w3]
            by_cases hnd : s.h - (takeP m i).1 + (takeP m i).2 - needP c P i s < baseP s
            · rw [if_pos hnd, decide_eq_true hnd]
              exact ⟨_, rfl, rfl⟩
            · rw [if_neg hnd, decide_eq_false hnd, cond_false]
              rw [show (i.Op == 24 || i.Op == 25 || i.Op == 26) = opnB i.Op from rfl]
              have hk3 : ((i.Op != 29 && i.Op != 31) && i.Op != 40) = !(i.Op == 29 || i.Op == 31 || i.Op == 40) := by
                rw [bne_not', bne_not', bne_not']
                cases (i.Op == 29) <;> cases (i.Op == 31) <;> cases (i.Op == 40) <;> rfl
              have h6 := hi.six
              by_cases ho : opnB i.Op = true
              · have hcnt := h.binv.cnt
                have hnx : Go.IntKind.wrap .i64 (s.nxt + 1) = s.nxt + 1 := by
                  rw [h.cinv.nxt]
                  have := h.hk; have := hcore.2.2
                  exact wrap_i64 (by omega) (by omega)
                have d1 : decide (s.ba.length + 1 ≤ 1073741824) = true := by rw [decide_eq_true_eq, hi.len]; omega
                have d2 : decide (s.op.length + 1 ≤ 1073741824) = true := by rw [decide_eq_true_eq]; omega
                simp only [ho, cond_true, hnx, hk3, List.length_cons, List.length_nil, Nat.zero_add, d1, d2, Bool.and_self, if_true]
                exact ⟨_, rfl, rfl⟩
              · have ho' : opnB i.Op = false := by simpa using ho
                simp only [ho', cond_false, hk3, Bool.false_eq_true, if_false]
                exact ⟨_, rfl, rfl⟩
end M
/-
  THE BLOCKS of a core, as the program finds them.
-/
set_option linter.unusedVariables false
set_option linter.unusedSimpArgs false
namespace M
open Go.V (inB slB bigN bigN_le)
theorem wz : Go.IntKind.wrap .i64 (((0 : Nat) : Int) - 1) = -1 := by rw [wrap_i64 (by omega) (by omega)]; rfl
theorem wz2 : Go.IntKind.wrap .i64 (-1) = -1 := wrap_i64 (by omega) (by omega)
theorem blocks_loop_i (c : SCore) (hn : c.Code.length ≤ 120) : ∀ (f k : Nat) (s : BS), k ≤ c.Code.length → c.Code.length - k < f → BInv k s →
    M.i_blocksOf_l0 c.Code (c.Code.length : Int) c f (k : Int) s.1 s.2 = some (match bRun 0 c.Code (c.Code.length - k) k s with
      | .inl p => .inl (p.1, p.2, [])
      | .inr s' => .inr (c, s'.1, s'.2))
  | 0, k, s, h1, h2, _ => by omega
  | f + 1, k, s, h1, h2, hI => by
    rw [M.i_blocksOf_l0]
    rcases Nat.lt_or_ge k c.Code.length with hk | hk
    · obtain ⟨r, hr⟩ : ∃ r, c.Code.length - k = r + 1 := ⟨c.Code.length - k - 1, by omega⟩
      have hr' : c.Code.length - (k + 1) = r := by omega
      have ih := fun s' h => blocks_loop_i c hn f (k + 1) s' (by omega) (by omega) h
      rw [hr'] at ih
      rw [hr]
      simp only [bRun]
      have hinv := fun s' h => bStep_inv (e := 0) (c := c.Code) (i := c.Code.getD k SIns.zero) (s' := s') hI h
      have hw : Go.IntKind.wrap .i64 ((k : Int) + 1) = ((k + 1 : Nat) : Int) := wrapk hk (by omega)
      have h6 := hI.six
      have hcnt := hI.cnt
      simp only [Int.toNat_natCast, inB_nat, Int.ofNat_lt, hk, decide_true, cond_true, Bool.and_true, hw]
      generalize hi : c.Code.getD k SIns.zero = i at hinv ⊢
      rw [show (i.Op == 24 || i.Op == 25 || i.Op == 26) = opnB i.Op from rfl]
      by_cases ho : opnB i.Op = true
      · rw [ho, cond_true]
        by_cases hl : s.2.length = 6
        · have hb : bStep 0 c.Code k i s = .inl 4 := by unfold bStep; rw [if_pos ho, if_pos hl]
          rw [hb, hl]; rfl
        · have hb : bStep 0 c.Code k i s = .inr (s.1 ++ [SCodeBlock.mk (k : Int) (-1) 0 0 (i.A == 1)], s.2 ++ [(s.1.length : Int)]) := by unfold bStep; rw [if_pos ho, if_neg hl]
          have q : (((s.2.length : Nat) : Int) == 6) = false := by rw [beq_eq_false_iff_ne]; omega
          have d1 : decide (s.1.length + 1 ≤ 1073741824) = true := by rw [decide_eq_true_eq]; omega
          have d2 : decide (s.2.length + 1 ≤ 1073741824) = true := by rw [decide_eq_true_eq]; omega
          have := ih _ (hinv _ hb)
          simp only [q, cond_false, List.length_cons, List.length_nil, Nat.zero_add, d1, d2, Bool.and_self, cond_true]
          rw [hb]
          exact this
      · have ho' : opnB i.Op = false := by simpa using ho
        rw [ho', cond_false]
        by_cases h27 : i.Op = 27
        · have b27 : (i.Op == 27) = true := by rw [h27]; rfl
          rw [b27, cond_true]
          by_cases h0 : s.2.length = 0
          · have hb : bStep 0 c.Code k i s = .inl 5 := by unfold bStep; rw [if_neg ho, if_pos h27, if_pos h0]
            rw [hb, h0]
            simp [wz2]
          · have ht := topI_lt hI h0
            have hat := topB_at hI h0
            have q : decide (((s.2.length - 1 : Nat) : Int) < 0) = false := by rw [decide_eq_false_iff_not]; omega
            have e1 := ht.2.symm
            have hA : inB (topB s).At c.Code.length = true := inB_int ⟨hat.1, by omega⟩
            have hS : s.2.length - 1 < s.2.length := by omega
            simp only [wrap_len h0 h6, q, Bool.false_or, Int.toNat_natCast, e1, inB_nat, ht.1, hS, decide_true]
            rw [show List.getD s.1 (topI s) SCodeBlock.zero = topB s from rfl, show (List.getD c.Code (Int.toNat (topB s).At) SIns.zero).Op = opAt c.Code (topB s).At from rfl, hA]
            by_cases hc : opAt c.Code (topB s).At ≠ 26 ∨ 0 ≤ (topB s).Else
            · have hb : bStep 0 c.Code k i s = .inl 5 := by unfold bStep; rw [if_neg ho, if_pos h27, if_neg h0, if_pos hc]
              have hq : ((opAt c.Code (topB s).At != 26) || decide (0 ≤ (topB s).Else)) = true := by rw [Bool.or_eq_true, bne_iff_ne, decide_eq_true_eq]; exact hc
              rw [hb, hq]; simp
            · have hb : bStep 0 c.Code k i s = .inr (s.1.set (topI s) (SCodeBlock.mk (topB s).At (k : Int) (topB s).End (topB s).Height (topB s).Result), s.2) := by unfold bStep; rw [if_neg ho, if_pos h27, if_neg h0, if_neg hc]
              have hq : ((opAt c.Code (topB s).At != 26) || decide (0 ≤ (topB s).Else)) = false := by
                rw [Bool.eq_false_iff, ne_eq, Bool.or_eq_true, bne_iff_ne, decide_eq_true_eq]; exact hc
              have := ih _ (hinv _ hb)
              rw [hb, hq]
              simp only [cond_false, Bool.true_or, Bool.and_self, cond_true]
              exact this
        · have b27 : (i.Op == 27) = false := by rw [beq_eq_false_iff_ne]; exact h27
          rw [b27, cond_false]
          by_cases h28 : i.Op = 28
          · have b28 : (i.Op == 28) = true := by rw [h28]; rfl
            rw [b28, cond_true]
            by_cases h0 : s.2.length = 0
            · have hb : bStep 0 c.Code k i s = .inl 5 := by unfold bStep; rw [if_neg ho, if_neg h27, if_pos h28, if_pos h0]
              rw [hb, h0, wz]; rfl
            · have ht := topI_lt hI h0
              have hat := topB_at hI h0
              have q : decide (((s.2.length - 1 : Nat) : Int) < 0) = false := by rw [decide_eq_false_iff_not]; omega
              have e1 := ht.2.symm
              have hA : inB (topB s).At c.Code.length = true := inB_int ⟨hat.1, by omega⟩
              have hS : s.2.length - 1 < s.2.length := by omega
              have hsl : slB (0 : Int) ((s.2.length - 1 : Nat) : Int) s.2.length = true := by unfold slB; simp
              simp only [wrap_len h0 h6, q, cond_false, Int.toNat_natCast, e1, inB_nat, ht.1, hS, decide_true, hsl]
              rw [show List.getD s.1 (topI s) SCodeBlock.zero = topB s from rfl, show (List.getD c.Code (Int.toNat (topB s).At) SIns.zero).Op = opAt c.Code (topB s).At from rfl, hA]
              by_cases hc : (opAt c.Code (topB s).At = 26 ∧ (topB s).Result = true) ∧ (topB s).Else < 0
              · have hb : bStep 0 c.Code k i s = .inl 7 := by unfold bStep; rw [if_neg ho, if_neg h27, if_pos h28, if_neg h0, if_pos hc]
                have hq : (((opAt c.Code (topB s).At == 26) && (topB s).Result) && decide ((topB s).Else < 0)) = true := by rw [Bool.and_eq_true, Bool.and_eq_true, beq_iff_eq, decide_eq_true_eq]; exact hc
                rw [hb, hq]; rfl
              · have hb : bStep 0 c.Code k i s = .inr (s.1.set (topI s) (SCodeBlock.mk (topB s).At (topB s).Else (k : Int) (topB s).Height (topB s).Result), s.2.take (s.2.length - 1)) := by unfold bStep; rw [if_neg ho, if_neg h27, if_pos h28, if_neg h0, if_neg hc]
                have hq : (((opAt c.Code (topB s).At == 26) && (topB s).Result) && decide ((topB s).Else < 0)) = false := by rw [Bool.eq_false_iff, ne_eq, Bool.and_eq_true, Bool.and_eq_true, beq_iff_eq, decide_eq_true_eq]; exact hc
                have := ih _ (hinv _ hb)
                rw [hb, hq]
                simp only [cond_false, Bool.and_self, cond_true]
                exact this
          · have b28 : (i.Op == 28) = false := by rw [beq_eq_false_iff_ne]; exact h28
            have hb : bStep 0 c.Code k i s = .inr s := by unfold bStep; rw [if_neg ho, if_neg h27, if_neg h28]
            have := ih _ (hinv _ hb)
            rw [b28, cond_false, hb]
            exact this
    · have : k = c.Code.length := by omega
      subst this
      simp [bRun]
theorem blocks_i (c : SCore) (hn : c.Code.length ≤ 120) : M.i_blocksOf c = some (match blocksP 0 c with
    | .inl p => ([], p.1, p.2)
    | .inr b => (b, 0, 0)) := by
  unfold M.i_blocksOf blocksP
  have e := blocks_loop_i c hn bigN 0 ([], []) (Nat.zero_le _) (by have := bigN_le; omega) bInv0
  have e' : M.i_blocksOf_l0 c.Code (c.Code.length : Int) c bigN 0 [] [] = _ := e
  rw [e', Nat.sub_zero]
  cases h : bRun 0 c.Code c.Code.length 0 ([], []) with
  | inl p => rfl
  | inr s =>
    simp only
    by_cases h0 : s.2.length = 0
    · rw [if_pos h0, h0]; rfl
    · rw [if_neg h0]
      have : decide ((0 : Int) < ((s.2.length : Nat) : Int)) = true := by rw [decide_eq_true_eq]; omega
      rw [this]; rfl
end M
/-
  THE CHECK of a core, as the program runs it.
-/
set_option linter.unusedVariables false
set_option linter.unusedSimpArgs false
namespace M
open Go.V (inB slB bigN bigN_le)

theorem place_i (m : SModule) (c : SCore) (s : CSt) (bl : List SCodeBlock) (h6 : s.op.length ≤ 6) : M.i_checker_place m.Pages m.Imports m.Cores c.Name c.Params c.Locals c.Result c.Code bl s.nxt s.h s.kn s.op s.ba = some (placeP s, stI m c bl s) := by
  have hown : M.slices_Clone_int64_int64 s.op = some s.op := by
    unfold M.slices_Clone_int64_int64
    rw [show decide (s.op.length ≤ 1099511627776) = true by rw [decide_eq_true_eq]; omega]
    rfl
  unfold M.i_checker_place placeP stI
  rw [hown]
  cases s.kn <;> rfl

theorem core_loop_i {m : SModule} {c : SCore} {P : List (Int × Bool)} {Bf : BS} {e : Int} (hf : Fin_ m c P Bf) {bl : List SCodeBlock} (hbl : bl.map pr = P) : ∀ (f k : Nat) (B : BS) (s : CSt) (out : List SCodePlace), k ≤ c.Code.length → c.Code.length - k < f → BInv k B → CInv B s → bRun e c.Code (c.Code.length - k) k B = .inr Bf → out.length = k →
    M.i_checked_l0 bl c.Code (c.Code.length : Int) c f (k : Int) m.Pages m.Imports m.Cores c.Name c.Params c.Locals c.Result c.Code bl s.nxt s.h s.kn out s.op s.ba = some (match cRun m c P (c.Code.length - k) k s out with
      | .inl p => .inl (p.1, p.2, [], [])
      | .inr p => .inr (bl, c, m.Pages, m.Imports, m.Cores, c.Name, c.Params, c.Locals, c.Result, c.Code, bl, p.1.nxt, p.1.h, p.1.kn, p.2, p.1.op, p.1.ba))
  | 0, k, B, s, out, h1, h2, _, _, _, _ => by omega
  | f + 1, k, B, s, out, h1, h2, hB, hs, hb, hl => by
    have hn := (hf.mok.core c hf.core).2.2
    rcases Nat.lt_or_ge k c.Code.length with hk | hk
    · obtain ⟨r, hrn⟩ : ∃ r, c.Code.length - k = r + 1 := ⟨c.Code.length - k - 1, by omega⟩
      have hr' : c.Code.length - (k + 1) = r := by omega
      rw [hrn] at hb ⊢
      simp only [bRun] at hb
      cases hx : bStep e c.Code k (c.Code.getD k SIns.zero) B with
      | inl x => rw [hx] at hb; cases hb
      | inr B' =>
        rw [hx] at hb
        simp only at hb
        have hat := hf.at_ hk hB hs hx hb
        obtain ⟨y, hy, hc⟩ := step_i hat hbl
        have h6 : s.op.length ≤ 6 := by rw [hs.op]; exact hB.six
        rw [M.i_checked_l0]
        have hw : Go.IntKind.wrap .i64 ((k : Int) + 1) = ((k + 1 : Nat) : Int) := wrapk hk (by omega)
        have hd : decide (out.length + ([placeP s] : List SCodePlace).length ≤ 1073741824) = true := by rw [decide_eq_true_eq, hl, List.length_cons, List.length_nil]; omega
        simp only [Int.ofNat_lt, hk, decide_true, cond_true, place_i m c s bl h6, Option.getD_some, stI, Int.toNat_natCast, hy, inB_nat, Option.isSome_some, Bool.and_true, Bool.and_self, hd, hw, cRun]
        cases hcs : cStep m c P (c.Code.getD k SIns.zero) s with
        | inl x =>
          rw [hcs] at hc
          simp only at hc
          have : (y.1 != 0) = true := by rw [bne_iff_ne, hc]; exact cStep_err hcs
          rw [this, hc]; rfl
        | inr s' =>
          rw [hcs] at hc
          simp only at hc
          subst hc
          have hz : (((0 : Int) != 0)) = false := by decide
          have ho2 := core_loop_i hf hbl f (k + 1) B' s' (out ++ [placeP s]) (by omega) (by omega) (bStep_inv hB hx) (cStep_inv hf.mok hs hx hcs) (by rw [hr']; exact hb) (by rw [List.length_append, hl]; rfl)
          rw [hr'] at ho2
          simp only [hz, cond_false, stI]
          exact ho2
    · have : k = c.Code.length := by omega
      subst this
      rw [M.i_checked_l0]
      simp [cRun]

theorem core_i_eq {m : SModule} (hm : MOk m) {k : Nat} (hk : k < m.Cores.length) : ∃ bl, M.i_checked m (k : Int) = some ((coreR m m.Cores[k]).1, bl, (coreR m m.Cores[k]).2) := by
  have hmem := List.getElem_mem hk
  have hn := (hm.core _ hmem).2.2
  unfold M.i_checked coreR pbl
  simp only [Int.toNat_natCast, getD_lt hk, inB_nat, hk, decide_true, Bool.and_true, Bool.and_self]
  generalize hc : m.Cores[k] = c at hn hmem ⊢
  rw [blocks_i c hn]
  have hb : ∀ p, blocksP 0 c = .inl p → p.2 ≠ 0 := fun p h => by
    unfold blocksP at h
    cases hx : bRun 0 c.Code c.Code.length 0 ([], []) with
    | inl q => rw [hx] at h; injection h with h; subst h; exact bRun_err _ _ _ _ hx
    | inr q =>
      rw [hx] at h
      simp only at h
      split at h
      · cases h
      · injection h with h; subst h
        show (5 : Int) ≠ 0
        decide
  cases hbl : blocksP 0 c with
  | inl p =>
    have : (p.2 != 0) = true := by rw [bne_iff_ne]; exact hb p hbl
    simp only [Option.getD_some, Option.isSome_some, mapR, this, cond_true]
    exact ⟨_, rfl⟩
  | inr b =>
    obtain ⟨Bf, hrun, hbf⟩ : ∃ Bf : BS, bRun 0 c.Code c.Code.length 0 ([], []) = .inr Bf ∧ Bf.1 = b := by
      unfold blocksP at hbl
      cases hx : bRun 0 c.Code c.Code.length 0 ([], []) with
      | inl q => rw [hx] at hbl; cases hbl
      | inr q =>
        rw [hx] at hbl
        simp only at hbl
        split at hbl
        · injection hbl with hbl; exact ⟨q, rfl, hbl⟩
        · cases hbl
    have hinv := (bRun_pre c.Code.length 0 ([], []) Bf bInv0 hrun).2
    rw [Nat.zero_add] at hinv
    have hf : Fin_ m c (b.map pr) Bf := ⟨hm, hmem, by rw [← hbf]; rfl, hinv⟩
    have ho := core_loop_i (e := 0) hf (bl := b) rfl bigN 0 ([], []) s0 [] (Nat.zero_le _) (by have := bigN_le; omega) bInv0 cinv0 (by rw [Nat.sub_zero]; exact hrun) rfl
    have ho' : M.i_checked_l0 b c.Code (c.Code.length : Int) c bigN 0 m.Pages m.Imports m.Cores c.Name c.Params c.Locals c.Result c.Code b 0 0 true [] [] [] = _ := ho
    rw [Nat.sub_zero] at ho'
    have hz : ((0 : Int) != 0) = false := by decide
    simp only [Option.getD_some, Option.isSome_some, mapR, hz, cond_false, ho']
    cases hcr : cRun m c (b.map pr) c.Code.length 0 s0 [] with
    | inl p => exact ⟨_, rfl⟩
    | inr p =>
      have hlen := cRun_len _ _ _ _ _ hcr
      simp only [bit_i, Option.getD_some, Option.isSome_some, Bool.true_or, Bool.and_self, Bool.and_true, cond_true]
      have hd : decide (p.2.length + ([SCodePlace.mk true (bitI c.Result) []] : List SCodePlace).length ≤ 1073741824) = true := by
        rw [decide_eq_true_eq, hlen]; simp only [List.length_cons, List.length_nil]; omega
      by_cases hq : p.1.kn = true ∧ p.1.h ≠ bitI c.Result
      · have q : (p.1.kn && (p.1.h != bitI c.Result)) = true := by rw [Bool.and_eq_true, bne_iff_ne]; exact hq
        rw [if_pos hq, q]; exact ⟨_, rfl⟩
      · have q : (p.1.kn && (p.1.h != bitI c.Result)) = false := by rw [Bool.eq_false_iff, ne_eq, Bool.and_eq_true, bne_iff_ne]; exact hq
        rw [if_neg hq, q, hd]; exact ⟨_, rfl⟩
end M
/-
  THE SHAPE of a module, as both ask it.
-/
set_option linter.unusedVariables false
set_option linter.unusedSimpArgs false
namespace M
open Go.V (inB slB bigN bigN_le)

def chB (c : UInt8) : Bool := ((((decide ((97 : Int) ≤ ((c.toNat : Nat) : Int)) && decide (((c.toNat : Nat) : Int) ≤ 122)) || (decide ((48 : Int) ≤ ((c.toNat : Nat) : Int)) && decide (((c.toNat : Nat) : Int) ≤ 57))) || (((c.toNat : Nat) : Int) == 45)) || (((c.toNat : Nat) : Int) == 46)) || (((c.toNat : Nat) : Int) == 47)
def wOk (s : List UInt8) : Bool := s.all chB && (decide (1 ≤ s.length) && decide (s.length ≤ 40))
theorem idx3 (c : UInt8) : decide (M.idxByte [(45 : UInt8), (46 : UInt8), (47 : UInt8)] ((c.toNat : Nat) : Int) < 0) = !(((((c.toNat : Nat) : Int) == 45) || (((c.toNat : Nat) : Int) == 46)) || (((c.toNat : Nat) : Int) == 47)) := by
  have e : ((c.toNat : Nat) : Int).toNat.toUInt8 = c := by rw [Int.toNat_natCast]; exact UInt8.ofNat_toNat
  unfold M.idxByte
  rw [e]
  have h : ∀ (n : UInt8), (n == c) = (((c.toNat : Nat) : Int) == ((n.toNat : Nat) : Int)) := fun n => by
    rw [Bool.eq_iff_iff, beq_iff_eq, beq_iff_eq]
    constructor
    · rintro rfl; rfl
    · intro h; exact UInt8.toNat_inj.1 (by omega)
  unfold Go.Lib.indexByte Go.Lib.indexByte Go.Lib.indexByte Go.Lib.indexByte
  rw [h 45, h 46, h 47]
  have n1 : (((45 : UInt8).toNat : Nat) : Int) = 45 := rfl
  have n2 : (((46 : UInt8).toNat : Nat) : Int) = 46 := rfl
  have n3 : (((47 : UInt8).toNat : Nat) : Int) = 47 := rfl
  rw [n1, n2, n3]
  cases (((c.toNat : Nat) : Int) == 45) <;> cases (((c.toNat : Nat) : Int) == 46) <;> cases (((c.toNat : Nat) : Int) == 47) <;> rfl
theorem len40 (s : List UInt8) : (decide ((1 : Int) ≤ ((s.length : Nat) : Int)) && decide (((s.length : Nat) : Int) ≤ 40)) = (decide (1 ≤ s.length) && decide (s.length ≤ 40)) := by
  congr 1 <;> simp only [decide_eq_decide] <;> omega
theorem word_s (s : List UInt8) (h : s.length ≤ 1048576) : M.s_l15Word s = some (wOk s) := by
  have e := all_list (p := chB) (F := M.s_l15Word_l0 s) (e := s) (b := false) s (by omega) (fun f k hk => by
    rw [M.s_l15Word_l0]
    simp only [getD_lt hk, Int.toNat_natCast, inB_nat, Int.ofNat_lt, hk, decide_true, cond_true, Bool.and_true, wrapk hk (by omega : s.length < 2 ^ 62)]
    rw [show chB s[k] = (((((decide ((97 : Int) ≤ ((s[k].toNat : Nat) : Int)) && decide (((s[k].toNat : Nat) : Int) ≤ 122)) || (decide ((48 : Int) ≤ ((s[k].toNat : Nat) : Int)) && decide (((s[k].toNat : Nat) : Int) ≤ 57))) || (((s[k].toNat : Nat) : Int) == 45)) || (((s[k].toNat : Nat) : Int) == 46)) || (((s[k].toNat : Nat) : Int) == 47)) from rfl]
    generalize (((((decide ((97 : Int) ≤ ((s[k].toNat : Nat) : Int)) && decide (((s[k].toNat : Nat) : Int) ≤ 122)) || (decide ((48 : Int) ≤ ((s[k].toNat : Nat) : Int)) && decide (((s[k].toNat : Nat) : Int) ≤ 57))) || (((s[k].toNat : Nat) : Int) == 45)) || (((s[k].toNat : Nat) : Int) == 46)) || (((s[k].toNat : Nat) : Int) == 47)) = b
    cases b <;> rfl) (fun f => by rw [M.s_l15Word_l0]; simp)
  unfold M.s_l15Word wOk
  rw [e]
  cases s.all chB
  · rfl
  · rw [if_pos rfl]; simp only [len40, Bool.true_and]
theorem word_i (s : List UInt8) (h : s.length ≤ 1048576) : M.i_WordOk s = some (wOk s) := by
  have e := all_list (p := chB) (F := M.i_WordOk_l0 s (s.length : Int)) (e := s) (b := false) s (by omega) (fun f k hk => by
    rw [M.i_WordOk_l0]
    simp only [getD_lt hk, Int.toNat_natCast, inB_nat, Int.ofNat_lt, hk, decide_true, cond_true, Bool.and_true, Bool.true_or, wrapk hk (by omega : s.length < 2 ^ 62), idx3]
    unfold chB
    generalize (decide ((97 : Int) ≤ ((s[k].toNat : Nat) : Int)) && decide (((s[k].toNat : Nat) : Int) ≤ 122)) = b1
    generalize (decide ((48 : Int) ≤ ((s[k].toNat : Nat) : Int)) && decide (((s[k].toNat : Nat) : Int) ≤ 57)) = b2
    cases b1 <;> cases b2 <;> cases (((s[k].toNat : Nat) : Int) == 45) <;> cases (((s[k].toNat : Nat) : Int) == 46) <;> cases (((s[k].toNat : Nat) : Int) == 47) <;> rfl) (fun f => by rw [M.i_WordOk_l0]; simp)
  unfold M.i_WordOk wOk
  rw [e]
  cases s.all chB
  · rfl
  · rw [if_pos rfl]; simp only [len40, Bool.true_and]

/-! ### instructions, cores -/

theorem bifs7 {b c : Bool} : (bif b then b else c) = (b || c) := by cases b <;> rfl
theorem operand_some (op : Int) : ∃ y, M.i_operandOf op = some y ∧ (op ≠ 1 → 0 ≤ y.1 ∧ y.2.1 ≤ 4096) := by
  unfold M.i_operandOf
  simp only [bifs7]
  simp only [ite_b]
  by_cases h1 : (op == 1) = true
  · rw [if_pos h1]; exact ⟨_, rfl, fun h => absurd (by simpa using h1) h⟩
  rw [if_neg h1]
  repeat' split
  all_goals
    refine ⟨_, rfl, fun _ => ?_⟩
    constructor <;> simp
noncomputable def insB (i : SIns) : Bool := (M.i_InsOk i).getD false
theorem ins_i (i : SIns) : M.i_InsOk i = some (insB i) ∧ M.s_l15Ins i = some (insB i) := by
  obtain ⟨y, hy, -⟩ := operand_some i.Op
  have e : M.i_InsOk i = some (insB i) := by
    unfold insB M.i_InsOk
    rw [hy]; rfl
  exact ⟨e, e⟩
theorem insB_ok {i : SIns} (h : insB i = true) : (1 ≤ i.Op ∧ i.Op ≤ 40) ∧ (i.Op ≠ 1 → 0 ≤ i.A ∧ i.A ≤ 16777216) := by
  obtain ⟨y, hy, hb⟩ := operand_some i.Op
  unfold insB M.i_InsOk at h
  rw [hy] at h
  simp only [Option.isSome_some, Option.getD_some, Bool.and_self, cond_true, Bool.and_eq_true, decide_eq_true_eq] at h
  refine ⟨h.1, fun h1 => ?_⟩
  have := hb h1
  omega
noncomputable def cOk (c : SCore) : Bool := (((decide ((0 : Int) ≤ c.Params) && decide (c.Params ≤ 8)) && (decide ((0 : Int) ≤ c.Locals) && decide (c.Locals ≤ 8))) && decide (c.Code.length ≤ 120)) && c.Code.all insB
theorem core_i (c : SCore) (h : c.Code.length ≤ 1048576) : M.i_coreOk c = some (cOk c) := by
  have e := find_list (p := fun i => !insB i) (F := M.slices_IndexFunc_Ins_Ins_l0 c.Code (c.Code.length : Int)) (e := ()) (fun k => k) c.Code (by omega) (fun f k hk => by
    rw [M.slices_IndexFunc_Ins_Ins_l0]
    have ec : M.i_coreOk_c1 c.Code[k] = some (!insB c.Code[k]) := by unfold M.i_coreOk_c1; rw [(ins_i _).1]; rfl
    simp only [getD_lt hk, ec, Int.toNat_natCast, inB_nat, Int.ofNat_lt, hk, decide_true, cond_true, Bool.true_and, Bool.and_true, wrapk hk (by omega : c.Code.length < 2 ^ 62), Option.getD_some, Option.isSome_some]) (fun f => by
    rw [M.slices_IndexFunc_Ins_Ins_l0]; simp)
  have e2 : M.slices_ContainsFunc_Ins_Ins c.Code = some (!c.Code.all insB) := by
    unfold M.slices_ContainsFunc_Ins_Ins M.slices_IndexFunc_Ins_Ins
    rw [e, List.not_all_eq_any_not, findIdx_any]
    cases c.Code.findIdx? (fun i => !insB i) <;> simp
  have e3 : decide (((c.Code.length : Nat) : Int) ≤ 120) = decide (c.Code.length ≤ 120) := by simp only [decide_eq_decide]; omega
  unfold M.i_coreOk cOk
  rw [e2, e3]
  simp only [Option.isSome_some, Option.getD_some, Bool.true_or, Bool.and_self, cond_true, Bool.not_not]
theorem core_s (c : SCore) (h : c.Code.length ≤ 1048576) (hn : c.Name.length ≤ 1048576) : M.s_l15Core c = some (wOk c.Name && cOk c) := by
  have e := all_list (p := insB) (F := M.s_l15Core_l0 c) (e := ()) (b := false) c.Code (by omega) (fun f k hk => by
    rw [M.s_l15Core_l0]
    simp only [getD_lt hk, (ins_i _).2, Int.toNat_natCast, inB_nat, Int.ofNat_lt, hk, decide_true, cond_true, Bool.true_and, Bool.and_true, wrapk hk (by omega : c.Code.length < 2 ^ 62), Option.getD_some, Option.isSome_some]
    cases insB c.Code[k] <;> rfl) (fun f => by rw [M.s_l15Core_l0]; simp)
  have e3 : decide ((120 : Int) < ((c.Code.length : Nat) : Int)) = !decide (c.Code.length ≤ 120) := by rw [← decide_not]; simp only [decide_eq_decide]; omega
  unfold M.s_l15Core cOk
  rw [word_s c.Name hn, e, e3]
  simp only [Option.isSome_some, Option.getD_some, Bool.and_self, cond_true]
  generalize (decide ((0 : Int) ≤ c.Params) && decide (c.Params ≤ 8)) = b1
  generalize (decide ((0 : Int) ≤ c.Locals) && decide (c.Locals ≤ 8)) = b2
  generalize decide (c.Code.length ≤ 120) = b3
  cases wOk c.Name <;> cases b1 <;> cases b2 <;> cases b3 <;> cases c.Code.all insB <;> rfl

/-! ### modules -/

def impB (x : SImport) : Bool := decide ((0 : Int) ≤ x.Params) && decide (x.Params ≤ 8)
def namesB (l : List (List UInt8)) : Bool := nodupB l && l.all wOk
noncomputable def mOkB (m : SModule) : Bool := (((decide ((1 : Int) ≤ m.Pages) && decide (m.Pages ≤ 16)) && decide (m.Imports.length ≤ 12)) && decide (m.Cores.length ≤ 8)) && ((m.Imports.all impB && m.Cores.all cOk) && (namesB (m.Imports.map SImport.Name) && namesB (m.Cores.map SCore.Name)))
theorem len12 (n : Nat) : decide ((12 : Int) < ((n : Nat) : Int)) = !decide (n ≤ 12) := by rw [← decide_not]; simp only [decide_eq_decide]; omega
theorem len8 (n : Nat) : decide ((8 : Int) < ((n : Nat) : Int)) = !decide (n ≤ 8) := by rw [← decide_not]; simp only [decide_eq_decide]; omega

theorem importAt (l : List SImport) (name : List UInt8) (h : l.length ≤ 1048576) : ∃ y, M.s_l15ImportAt l name = some y ∧ decide ((0 : Int) ≤ y) = l.any fun x => x.Name == name := by
  have e := find_list (p := fun x : SImport => x.Name == name) (F := M.s_l15ImportAt_l0 l name) (e := ()) (fun k => k) l (by omega) (fun f k hk => by
    rw [M.s_l15ImportAt_l0]
    simp only [getD_lt hk, Int.toNat_natCast, inB_nat, Int.ofNat_lt, hk, decide_true, cond_true, Bool.and_true, wrapk hk (by omega : l.length < 2 ^ 62)]) (fun f => by rw [M.s_l15ImportAt_l0]; simp)
  unfold M.s_l15ImportAt
  rw [e, findIdx_any]
  cases l.findIdx? (fun x : SImport => x.Name == name) with
  | none => exact ⟨_, rfl, rfl⟩
  | some k => exact ⟨_, rfl, by simp⟩
theorem coreAt (l : List SCore) (name : List UInt8) (h : l.length ≤ 1048576) : ∃ y, M.s_l15CoreAt l name = some y ∧ decide ((0 : Int) ≤ y) = l.any fun x => x.Name == name := by
  have e := find_list (p := fun x : SCore => x.Name == name) (F := M.s_l15CoreAt_l0 l name) (e := ()) (fun k => k) l (by omega) (fun f k hk => by
    rw [M.s_l15CoreAt_l0]
    simp only [getD_lt hk, Int.toNat_natCast, inB_nat, Int.ofNat_lt, hk, decide_true, cond_true, Bool.and_true, wrapk hk (by omega : l.length < 2 ^ 62)]) (fun f => by rw [M.s_l15CoreAt_l0]; simp)
  unfold M.s_l15CoreAt
  rw [e, findIdx_any]
  cases l.findIdx? (fun x : SCore => x.Name == name) with
  | none => exact ⟨_, rfl, rfl⟩
  | some k => exact ⟨_, rfl, by simp⟩
theorem slB0 {i n : Nat} (h : i ≤ n) : slB (0 : Int) (i : Int) n = true := by unfold slB; simp; omega

theorem shape_m_s (m : SModule) (h : m.sz ≤ 1048576) : M.s_l15Shape m = some (mOkB m) := by
  rw [SModule.sz_eq] at h
  have hi : m.Imports.length ≤ 1048576 := Nat.le_trans (szL_len SImport.sz _) (by omega)
  have hc : m.Cores.length ≤ 1048576 := Nat.le_trans (szL_len SCore.sz _) (by omega)
  have e0 := all_loop (p := fun i => (wOk (m.Imports.getD i SImport.zero).Name && impB (m.Imports.getD i SImport.zero)) && !((m.Imports.take i).any fun x => x.Name == (m.Imports.getD i SImport.zero).Name)) (F := M.s_l15Shape_l0 m) (e := m) (b := false) m.Imports.length (by omega) (fun f k hk => by
    rw [M.s_l15Shape_l0]
    have hsz := szL_mem SImport.sz _ _ (List.getElem_mem hk)
    have hn : m.Imports[k].Name.length ≤ 1048576 := by rw [SImport.sz_eq] at hsz; omega
    obtain ⟨y, hy, hy2⟩ := importAt (m.Imports.take k) m.Imports[k].Name (by rw [List.length_take]; omega)
    have hd : ∀ l : List SImport, List.drop (Int.toNat (0 : Int)) l = l := fun l => rfl
    simp only [getD_lt hk, Int.toNat_natCast, inB_nat, Int.ofNat_lt, hk, decide_true, cond_true, Bool.and_true, Bool.true_and, hd, hy, hy2, word_s _ hn, Option.getD_some, Option.isSome_some, Bool.true_or, slB0 (Nat.le_of_lt hk), wrapk hk (by omega : m.Imports.length < 2 ^ 62)]
    rw [show impB m.Imports[k] = (decide ((0 : Int) ≤ m.Imports[k].Params) && decide (m.Imports[k].Params ≤ 8)) from rfl]
    generalize (decide ((0 : Int) ≤ m.Imports[k].Params) && decide (m.Imports[k].Params ≤ 8)) = b1
    generalize ((m.Imports.take k).any fun x => x.Name == m.Imports[k].Name) = b2
    cases wOk m.Imports[k].Name <;> cases b1 <;> cases b2 <;> rfl) (fun f => by rw [M.s_l15Shape_l0]; simp)
  have e1 := all_loop (p := fun i => (wOk (m.Cores.getD i SCore.zero).Name && cOk (m.Cores.getD i SCore.zero)) && !((m.Cores.take i).any fun x => x.Name == (m.Cores.getD i SCore.zero).Name)) (F := M.s_l15Shape_l1 m) (e := ()) (b := false) m.Cores.length (by omega) (fun f k hk => by
    rw [M.s_l15Shape_l1]
    have hsz := szL_mem SCore.sz _ _ (List.getElem_mem hk)
    have hn : m.Cores[k].Name.length ≤ 1048576 ∧ m.Cores[k].Code.length ≤ 1048576 := by
      rw [SCore.sz_eq] at hsz
      have := szL_len SIns.sz m.Cores[k].Code
      omega
    obtain ⟨y, hy, hy2⟩ := coreAt (m.Cores.take k) m.Cores[k].Name (by rw [List.length_take]; omega)
    have hd : ∀ l : List SCore, List.drop (Int.toNat (0 : Int)) l = l := fun l => rfl
    simp only [getD_lt hk, Int.toNat_natCast, inB_nat, Int.ofNat_lt, hk, decide_true, cond_true, Bool.and_true, Bool.true_and, hd, hy, hy2, core_s _ hn.2 hn.1, Option.getD_some, Option.isSome_some, Bool.true_or, slB0 (Nat.le_of_lt hk), wrapk hk (by omega : m.Cores.length < 2 ^ 62)]
    generalize ((m.Cores.take k).any fun x => x.Name == m.Cores[k].Name) = b2
    cases wOk m.Cores[k].Name <;> cases cOk m.Cores[k] <;> cases b2 <;> rfl) (fun f => by rw [M.s_l15Shape_l1]; simp)
  rw [all_and5, nodup_take SImport.Name, all_range5 (fun x : SImport => wOk x.Name && impB x), all_and5] at e0
  rw [all_and5, nodup_take SCore.Name, all_range5 (fun x : SCore => wOk x.Name && cOk x), all_and5] at e1
  have w1 : (m.Imports.map SImport.Name).all wOk = m.Imports.all fun x => wOk x.Name := by rw [List.all_map]; rfl
  have w2 : (m.Cores.map SCore.Name).all wOk = m.Cores.all fun x => wOk x.Name := by rw [List.all_map]; rfl
  unfold M.s_l15Shape mOkB namesB
  rw [len12, len8, e0, w1, w2]
  generalize (decide ((1 : Int) ≤ m.Pages) && decide (m.Pages ≤ 16)) = b0
  generalize decide (m.Imports.length ≤ 12) = b1
  generalize decide (m.Cores.length ≤ 8) = b2
  generalize (m.Imports.all fun x => wOk x.Name) = b3
  generalize m.Imports.all impB = b4
  generalize nodupB (m.Imports.map SImport.Name) = b5
  generalize (m.Cores.all fun x => wOk x.Name) = b6 at e1 ⊢
  generalize m.Cores.all cOk = b7 at e1 ⊢
  generalize nodupB (m.Cores.map SCore.Name) = b8 at e1 ⊢
  cases b0
  · rfl
  cases b1
  · rfl
  cases b2
  · rfl
  cases b3 <;> cases b4 <;> cases b5
  all_goals first
    | (cases b6 <;> cases b7 <;> cases b8 <;> rfl)
    | (simp only [Bool.and_self, if_true, Bool.not_true, Bool.or_self, cond_false, Bool.true_and, e1]
       cases b6 <;> cases b7 <;> cases b8 <;> rfl)
end M
/-
  THE SHAPE of a module, as the program asks it; what it tells of the numbers.
-/
set_option linter.unusedVariables false
set_option linter.unusedSimpArgs false
namespace M
open Go.V (inB slB bigN bigN_le)

theorem words_i (l : List (List UInt8)) (hl : l.length ≤ 1048576) (h : ∀ x ∈ l, x.length ≤ 1048576) : M.i_wordsOk l = some (namesB l) := by
  have e := find_list (p := fun s => !wOk s) (F := M.slices_IndexFunc_string_string_l0 l (l.length : Int)) (e := ()) (fun k => k) l (by omega) (fun f k hk => by
    rw [M.slices_IndexFunc_string_string_l0]
    have ec : M.i_wordsOk_c1 l[k] = some (!wOk l[k]) := by unfold M.i_wordsOk_c1; rw [word_i _ (h _ (List.getElem_mem hk))]; rfl
    simp only [getD_lt hk, ec, Int.toNat_natCast, inB_nat, Int.ofNat_lt, hk, decide_true, cond_true, Bool.true_and, Bool.and_true, wrapk hk (by omega : l.length < 2 ^ 62), Option.getD_some, Option.isSome_some]) (fun f => by
    rw [M.slices_IndexFunc_string_string_l0]; simp)
  have e2 : M.slices_ContainsFunc_string_string l = some (!l.all wOk) := by
    unfold M.slices_ContainsFunc_string_string M.slices_IndexFunc_string_string
    rw [e, List.not_all_eq_any_not, findIdx_any]
    cases l.findIdx? (fun i => !wOk i) <;> simp
  unfold M.i_wordsOk namesB
  rw [e2, i_distinct_eq l hl]
  simp only [Option.isSome_some, Option.getD_some, Bool.true_or, Bool.and_self, cond_true, Bool.not_not]
theorem take_nm {α : Type} (nm : α → List UInt8) (l : List α) (k : Nat) (hk : k < l.length) : (l.take k).map nm ++ [nm l[k]] = (l.take (k + 1)).map nm := by
  rw [List.take_add_one, List.map_append, List.getElem?_eq_getElem hk]; rfl

theorem shape_m_i (m : SModule) (h : m.sz ≤ 1048576) : M.i_ModuleShape m = some (mOkB m) := by
  rw [SModule.sz_eq] at h
  have hi : m.Imports.length ≤ 1048576 := Nat.le_trans (szL_len SImport.sz _) (by omega)
  have hc : m.Cores.length ≤ 1048576 := Nat.le_trans (szL_len SCore.sz _) (by omega)
  have k0 : ∀ g k, k ≤ m.Imports.length → m.Imports.length - k < g → M.i_ModuleShape_l0 m.Imports (m.Imports.length : Int) m [] g (k : Int) ((m.Imports.take k).map SImport.Name) = some (if (m.Imports.drop k).all impB then .inr (m, m.Imports.map SImport.Name, []) else .inl false) := by
    intro g
    induction g with
    | zero => intro k h1 h2; omega
    | succ g ih =>
      intro k h1 h2
      rcases Nat.lt_or_ge k m.Imports.length with hk | hk
      · rw [M.i_ModuleShape_l0]
        have hd : decide ((((m.Imports.take k).map SImport.Name).length + ([m.Imports[k].Name] : List (List UInt8)).length) ≤ 1073741824) = true := by
          simp only [decide_eq_true_eq, List.length_map, List.length_take, List.length_cons, List.length_nil]; omega
        simp only [getD_lt hk, Int.toNat_natCast, inB_nat, Int.ofNat_lt, hk, decide_true, cond_true, Bool.true_and, Bool.and_true, wrapk hk (by omega : m.Imports.length < 2 ^ 62), hd, take_nm SImport.Name _ k hk]
        rw [ih (k + 1) (by omega) (by omega), drop_get hk, List.all_cons]
        rw [show impB m.Imports[k] = (decide ((0 : Int) ≤ m.Imports[k].Params) && decide (m.Imports[k].Params ≤ 8)) from rfl]
        cases (decide ((0 : Int) ≤ m.Imports[k].Params) && decide (m.Imports[k].Params ≤ 8)) <;> simp
      · have : k = m.Imports.length := by omega
        subst this
        rw [M.i_ModuleShape_l0]
        simp
  have k1 : ∀ g k, k ≤ m.Cores.length → m.Cores.length - k < g → M.i_ModuleShape_l1 m.Cores (m.Cores.length : Int) (m.Imports.map SImport.Name) g (k : Int) ((m.Cores.take k).map SCore.Name) = some (if (m.Cores.drop k).all cOk then .inr (m.Imports.map SImport.Name, m.Cores.map SCore.Name) else .inl false) := by
    intro g
    induction g with
    | zero => intro k h1 h2; omega
    | succ g ih =>
      intro k h1 h2
      rcases Nat.lt_or_ge k m.Cores.length with hk | hk
      · rw [M.i_ModuleShape_l1]
        have hsz := szL_mem SCore.sz _ _ (List.getElem_mem hk)
        have hn : m.Cores[k].Code.length ≤ 1048576 := by
          rw [SCore.sz_eq] at hsz
          have := szL_len SIns.sz m.Cores[k].Code
          omega
        have hd : decide ((((m.Cores.take k).map SCore.Name).length + ([m.Cores[k].Name] : List (List UInt8)).length) ≤ 1073741824) = true := by
          simp only [decide_eq_true_eq, List.length_map, List.length_take, List.length_cons, List.length_nil]; omega
        simp only [getD_lt hk, core_i _ hn, Option.getD_some, Option.isSome_some, Int.toNat_natCast, inB_nat, Int.ofNat_lt, hk, decide_true, cond_true, Bool.true_and, Bool.and_true, wrapk hk (by omega : m.Cores.length < 2 ^ 62), hd, take_nm SCore.Name _ k hk]
        rw [ih (k + 1) (by omega) (by omega), drop_get hk, List.all_cons]
        cases cOk m.Cores[k] <;> simp
      · have : k = m.Cores.length := by omega
        subst this
        rw [M.i_ModuleShape_l1]
        simp
  have e0 := k0 bigN 0 (Nat.zero_le _) (by have := bigN_le; omega)
  have e0' : M.i_ModuleShape_l0 m.Imports (m.Imports.length : Int) m [] bigN 0 [] = _ := e0
  have e1 := k1 bigN 0 (Nat.zero_le _) (by have := bigN_le; omega)
  have e1' : M.i_ModuleShape_l1 m.Cores (m.Cores.length : Int) (m.Imports.map SImport.Name) bigN 0 [] = _ := e1
  rw [List.drop_zero] at e0' e1'
  have n0 : ∀ x ∈ m.Imports.map SImport.Name, x.length ≤ 1048576 := fun x hx => by
    obtain ⟨y, hy, rfl⟩ := List.mem_map.1 hx
    have := szL_mem SImport.sz _ _ hy
    rw [SImport.sz_eq] at this; omega
  have n1 : ∀ x ∈ m.Cores.map SCore.Name, x.length ≤ 1048576 := fun x hx => by
    obtain ⟨y, hy, rfl⟩ := List.mem_map.1 hx
    have := szL_mem SCore.sz _ _ hy
    rw [SCore.sz_eq] at this; omega
  unfold M.i_ModuleShape mOkB
  rw [len12, len8, e0']
  generalize (decide ((1 : Int) ≤ m.Pages) && decide (m.Pages ≤ 16)) = b0
  generalize decide (m.Imports.length ≤ 12) = b1
  generalize decide (m.Cores.length ≤ 8) = b2
  cases b0
  · rfl
  cases b1
  · rfl
  cases b2
  · rfl
  cases m.Imports.all impB
  · rfl
  · simp only [if_true, Bool.not_true, Bool.or_self, cond_false, e1']
    cases m.Cores.all cOk
    · rfl
    · simp only [if_true, words_i _ (by rw [List.length_map]; exact hi) n0, words_i _ (by rw [List.length_map]; exact hc) n1, Option.getD_some, Option.isSome_some, Bool.true_or, Bool.and_self, cond_true, Bool.true_and]

theorem mOk_of {m : SModule} (h : mOkB m = true) : MOk m := by
  unfold mOkB at h
  simp only [Bool.and_eq_true, decide_eq_true_eq, List.all_eq_true] at h
  obtain ⟨⟨⟨-, hi⟩, hc⟩, ⟨h1, h2⟩, -⟩ := h
  have hcore : ∀ x ∈ m.Cores, ((0 ≤ x.Params ∧ x.Params ≤ 8) ∧ (0 ≤ x.Locals ∧ x.Locals ≤ 8) ∧ x.Code.length ≤ 120) ∧ ∀ i ∈ x.Code, insB i = true := fun x hx => by
    have := h2 x hx
    unfold cOk at this
    simp only [Bool.and_eq_true, decide_eq_true_eq, List.all_eq_true] at this
    exact ⟨⟨this.1.1.1, this.1.1.2, this.1.2⟩, this.2⟩
  refine ⟨hc, hi, fun x hx => ?_, fun x hx => (hcore x hx).1, fun x hx i hi' => insB_ok ((hcore x hx).2 i hi')⟩
  have := h1 x hx
  unfold impB at this
  simpa using this
end M
