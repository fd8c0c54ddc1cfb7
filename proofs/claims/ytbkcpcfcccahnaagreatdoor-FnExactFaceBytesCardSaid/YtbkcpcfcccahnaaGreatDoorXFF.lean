/-
  VERSIONS: what the program and the reference find of them.
-/
import Derived.Test.YtbkcpcfcccahnaaGreatDoorXFTP
import Derived.Test.YtbkcpcfcccahnaaGreatDoorXVER
set_option linter.unusedVariables false
set_option linter.unusedSimpArgs false
namespace M
open Go.V (inB slB bigN bigN_le)

/-- is it a version? -/
def verOk (s : List UInt8) : Bool := (Ver.implV s).isSome

theorem readDec_canon (s : List UInt8) : (match M.readDec s with | (v, b) => if b = true ∧ (0 ≤ v ∧ v ≤ 999) then some v.toNat else none) = Ver.canonD s := by
  unfold M.readDec Ver.canonD
  cases Go.Lib.parseIntB 64 s with
  | ok v =>
    simp only
    by_cases h : Go.Lib.itoa v = s
    · rw [if_pos h]
      simp only [h, true_and]
    · rw [if_neg h]; simp [h]
  | _ => simp

theorem readDec_step (s : List UInt8) : (Ver.canonD s = none ∧ ((!(M.readDec s).2) || (!(decide ((0 : Int) ≤ (M.readDec s).1) && decide ((M.readDec s).1 ≤ 999)))) = true) ∨ ∃ n : Nat, Ver.canonD s = some n ∧ n ≤ 999 ∧ (M.readDec s).1 = (n : Int) ∧ ((!(M.readDec s).2) || (!(decide ((0 : Int) ≤ (M.readDec s).1) && decide ((M.readDec s).1 ≤ 999)))) = false := by
  have h := readDec_canon s
  generalize M.readDec s = p at h
  obtain ⟨v, b⟩ := p
  simp only at h ⊢
  by_cases hc : b = true ∧ (0 ≤ v ∧ v ≤ 999)
  · rw [if_pos hc] at h
    exact .inr ⟨v.toNat, h.symm, by omega, by omega, by simp [hc.1, hc.2.1, hc.2.2]⟩
  · rw [if_neg hc] at h
    refine .inl ⟨h.symm, ?_⟩
    cases b
    · rfl
    · simp only [Bool.not_true, Bool.false_or, Bool.not_eq_true', Bool.and_eq_false_iff, decide_eq_false_iff_not]
      simp only [true_and] at hc
      omega

theorem split_mem (s : List UInt8) : ∀ p ∈ Ver.splitDot s, p.length ≤ s.length := by
  have key : ∀ (s : List UInt8), ∀ p ∈ Ver.splitDot s, p.length ≤ s.length := by
    intro s
    induction s with
    | nil => intro p hp; simp [Ver.splitDot] at hp; subst hp; simp
    | cons c r ih =>
      intro p hp
      unfold Ver.splitDot at hp
      split at hp
      · rcases List.mem_cons.1 hp with rfl | hp
        · simp
        · have := ih p hp; simp; omega
      · split at hp
        · rename_i x y e
          rw [e] at ih
          rcases List.mem_cons.1 hp with rfl | hp
          · have := ih x (by simp); simp; omega
          · have := ih p (by simp [hp]); simp; omega
        · simp at hp; subst hp; simp
  exact key s

theorem version_i (s : List UInt8) (h : s.length ≤ 1048576) : M.i_VersionOk s = some (verOk s) := by
  have hs : M.strings_Split s [46] = some (Ver.splitDot s) := by
    unfold M.strings_Split
    have : decide (s.length < 4294967281) = true := by rw [decide_eq_true_eq]; omega
    rw [this]; rfl
  have hrd : ∀ p ∈ Ver.splitDot s, M.i_readDecimal p = some (M.readDec p) := fun p hp => by
    have := split_mem s p hp
    unfold M.i_readDecimal
    have : decide (p.length ≤ 281474976710656) = true := by rw [decide_eq_true_eq]; omega
    rw [this]; rfl
  have hv : ∃ v : Int × Bool, M.i_VersionNumber s = some v ∧ v.2 = verOk s := by
    unfold M.i_VersionNumber verOk Ver.implV
    rw [hs]
    simp only [Option.getD_some, Option.isSome_some, Bool.true_and, Bool.and_true, cond_true]
    match hp : Ver.splitDot s, hrd with
    | [], _ => exact ⟨_, rfl, rfl⟩
    | [a], _ => exact ⟨_, rfl, rfl⟩
    | [a, b], _ => exact ⟨_, rfl, rfl⟩
    | a :: b :: c :: d :: r, _ =>
      have : ((((a :: b :: c :: d :: r).length : Nat) : Int) != 3) = true := by
        simp only [List.length_cons, bne_iff_ne]; omega
      rw [this]; exact ⟨_, rfl, rfl⟩
    | [a, b, c], hrd =>
      have h3 : ((((([a, b, c] : List (List UInt8)).length : Nat) : Int) != 3)) = false := rfl
      rw [h3]
      simp only [cond_false]
      obtain ⟨f0, hf0⟩ : ∃ f0, bigN = f0 + 4 := ⟨bigN - 4, by have := bigN_le; omega⟩
      have ra := hrd a (by simp)
      have rb := hrd b (by simp)
      have rc := hrd c (by simp)
      have st : ∀ (f : Nat) (n : Int) (k : Nat) (p : List UInt8) (hk : k < 3), ([a, b, c].getD k []) = p → M.i_readDecimal p = some (M.readDec p) → M.i_VersionNumber_l0 [a, b, c] ((([a, b, c] : List (List UInt8)).length : Nat) : Int) (f + 1) n (k : Int) =
          bif ((!(M.readDec p).2) || (!(decide ((0 : Int) ≤ (M.readDec p).1) && decide ((M.readDec p).1 ≤ 999)))) then some (.inl (0, false)) else M.i_VersionNumber_l0 [a, b, c] ((([a, b, c] : List (List UInt8)).length : Nat) : Int) f (Go.IntKind.wrap .i64 (Go.IntKind.wrap .i64 (n * 1000) + (M.readDec p).1)) ((k + 1 : Nat) : Int) := fun f n k p hk hg hr => by
        rw [M.i_VersionNumber_l0]
        have hlt : decide ((k : Int) < ((([a, b, c] : List (List UInt8)).length : Nat) : Int)) = true := by simp; omega
        have hin : inB (k : Int) ([a, b, c] : List (List UInt8)).length = true := by rw [inB_nat]; simp; omega
        simp only [hlt, cond_true, Int.toNat_natCast, hg, hr, Option.getD_some, Option.isSome_some, hin, Bool.true_and, Bool.and_true, wrapk (show k < 3 from hk) (by omega)]
      have e0 := st (f0 + 3) 0 0 a (by omega) rfl ra
      rw [hf0]
      change M.i_VersionNumber_l0 [a, b, c] ((([a, b, c] : List (List UInt8)).length : Nat) : Int) (f0 + 4) 0 0 = _ at e0
      rw [e0]
      rcases readDec_step a with ⟨ha, ca⟩ | ⟨x, ha, hx, ea, ca⟩
      · rw [ca, ha]; exact ⟨_, rfl, rfl⟩
      rw [ca, ha]
      have w1 : Go.IntKind.wrap .i64 (Go.IntKind.wrap .i64 ((0 : Int) * 1000) + (M.readDec a).1) = (x : Int) := by
        rw [ea, wrap_i64 (n := 0 * 1000) (by omega) (by omega), wrap_i64 (by omega) (by omega)]; omega
      rw [cond_false, w1, st (f0 + 2) _ 1 b (by omega) rfl rb]
      rcases readDec_step b with ⟨hb, cb⟩ | ⟨y, hb, hy, eb, cb⟩
      · rw [cb, hb]; exact ⟨_, rfl, rfl⟩
      rw [cb, hb]
      have w2 : Go.IntKind.wrap .i64 (Go.IntKind.wrap .i64 ((x : Int) * 1000) + (M.readDec b).1) = ((x * 1000 + y : Nat) : Int) := by
        rw [eb, wrap_i64 (show -9223372036854775808 ≤ (x : Int) * 1000 by omega) (by omega), wrap_i64 (by omega) (by omega)]; omega
      rw [cond_false, w2, st (f0 + 1) _ 2 c (by omega) rfl rc]
      rcases readDec_step c with ⟨hc, cc⟩ | ⟨z, hc, hz, ec, cc⟩
      · rw [cc, hc]; exact ⟨_, rfl, rfl⟩
      rw [cc, hc]
      have w3 : Go.IntKind.wrap .i64 (Go.IntKind.wrap .i64 (((x * 1000 + y : Nat) : Int) * 1000) + (M.readDec c).1) = (((x * 1000 + y) * 1000 + z : Nat) : Int) := by
        rw [ec, wrap_i64 (show -9223372036854775808 ≤ ((x * 1000 + y : Nat) : Int) * 1000 by omega) (by omega), wrap_i64 (by omega) (by omega)]; omega
      rw [cond_false, w3, M.i_VersionNumber_l0]
      exact ⟨_, rfl, rfl⟩
  obtain ⟨v, h1, h2⟩ := hv
  unfold M.i_VersionOk
  rw [h1]
  simp only [Option.isSome_some, Option.getD_some, Bool.and_true, cond_true, h2]
end M
/-
  VERSIONS: what the reference finds of them.
-/
set_option linter.unusedVariables false
set_option linter.unusedSimpArgs false
namespace M
open Go.V (inB slB bigN bigN_le)

theorem u8digit {n : Nat} (h : n < 10) : Go.IntKind.wrap .u8 (Go.IntKind.wrap .i64 ((48 : Int) + (n : Int))) = ((48 + n : Nat) : Int) := by
  rw [wrap_i64 (by omega) (by omega)]
  have : ∀ m : Fin 10, Go.IntKind.wrap .u8 ((48 : Int) + ((m.val : Nat) : Int)) = ((48 + m.val : Nat) : Int) := by decide
  exact this ⟨n, h⟩
theorem u8ok_digit {n : Nat} (h : n < 10) : Go.V.u8ok ((48 + n : Nat) : Int) = true := by
  unfold Go.V.u8ok; simp only [Bool.and_eq_true, decide_eq_true_eq]; omega
theorem u8of_digit (n : Nat) : Go.V.u8of ((48 + n : Nat) : Int) = UInt8.ofNat (48 + n) := by
  unfold Go.V.u8of; rw [Int.toNat_natCast]

theorem decN_1 {n : Nat} (h : n < 10) (f : Nat) : M.s_l02Dec_n (f + 1) (n : Int) = some [UInt8.ofNat (48 + n)] := by
  show M.s_l02Dec_b (M.s_l02Dec_n f) (n : Int) = _
  unfold M.s_l02Dec_b
  have : decide ((n : Int) < 10) = true := by rw [decide_eq_true_eq]; omega
  simp only [this, u8digit h, u8ok_digit h, u8of_digit]; rfl
theorem tdiv_nat (a b : Nat) : Int.tdiv (a : Int) (b : Int) = ((a / b : Nat) : Int) := (Int.ofNat_tdiv a b).symm
theorem tmod_nat (a b : Nat) : Int.tmod (a : Int) (b : Int) = ((a % b : Nat) : Int) := (Int.ofNat_tmod a b).symm
theorem catB_small {a b : List UInt8} (h : a.length + b.length ≤ 4611686018427387904) : Go.V.catB a b = true := by
  unfold Go.V.catB; rw [decide_eq_true_eq]; exact h
theorem decN_step {n : Nat} (h : 10 ≤ n) (hn : n < 1000) (f : Nat) {x : List UInt8} (hx : M.s_l02Dec_n f ((n / 10 : Nat) : Int) = some x) (hl : x.length ≤ 10) : M.s_l02Dec_n (f + 1) (n : Int) = some (x ++ [UInt8.ofNat (48 + n % 10)]) := by
  show M.s_l02Dec_b (M.s_l02Dec_n f) (n : Int) = _
  unfold M.s_l02Dec_b
  have h1 : decide ((n : Int) < 10) = false := by rw [decide_eq_false_iff_not]; omega
  have h2 : Go.IntKind.wrap .i64 (Int.tdiv (n : Int) 10) = ((n / 10 : Nat) : Int) := by
    rw [show Int.tdiv (n : Int) 10 = ((n / 10 : Nat) : Int) from tdiv_nat n 10, wrap_i64 (by omega) (by omega)]
  have h3 : Int.tmod (n : Int) 10 = ((n % 10 : Nat) : Int) := tmod_nat n 10
  have h4 : n % 10 < 10 := Nat.mod_lt _ (by decide)
  simp only [h1, h2, h3, hx, u8digit h4, u8ok_digit h4, u8of_digit, Option.getD_some, Option.isSome_some, cond_false, List.map_cons, List.map_nil]
  rw [catB_small (by simp; omega)]
  rfl
theorem dec_s {n : Nat} (h : n < 1000) : M.s_l02Dec (n : Int) = some (Ver.dec n) := by
  obtain ⟨f, hf⟩ : ∃ f, bigN = f + 3 := ⟨bigN - 3, by have := bigN_le; omega⟩
  rw [show M.s_l02Dec = M.s_l02Dec_n bigN from rfl, hf]
  unfold Ver.dec
  by_cases h1 : n < 10
  · rw [if_pos h1]; exact decN_1 h1 (f + 2)
  · rw [if_neg h1]
    by_cases h2 : n < 100
    · rw [if_pos h2]
      have := decN_step (by omega) h (f + 2) (decN_1 (show n / 10 < 10 by omega) (f + 1)) (by simp)
      simpa using this
    · rw [if_neg h2]
      have a := decN_1 (show n / 100 < 10 by omega) f
      have b := decN_step (n := n / 10) (by omega) (by omega) (f + 1) (by rw [show n / 10 / 10 = n / 100 by omega]; exact a) (by simp)
      have := decN_step (by omega) h (f + 2) b (by simp)
      simpa using this

theorem text_s {n : Nat} (h : n < 1000000000) : M.s_l02Text (n : Int) = some (Ver.vText n) := by
  unfold M.s_l02Text
  have e1 : Go.IntKind.wrap .i64 (Int.tdiv (n : Int) 1000000) = ((n / 1000000 : Nat) : Int) := by rw [show Int.tdiv (n : Int) 1000000 = ((n / 1000000 : Nat) : Int) from tdiv_nat n 1000000, wrap_i64 (by omega) (by omega)]
  have e2 : Int.tmod (Go.IntKind.wrap .i64 (Int.tdiv (n : Int) 1000)) 1000 = ((n / 1000 % 1000 : Nat) : Int) := by
    rw [show Int.tdiv (n : Int) 1000 = ((n / 1000 : Nat) : Int) from tdiv_nat n 1000, wrap_i64 (by omega) (by omega)]; exact tmod_nat (n / 1000) 1000
  have e3 : Int.tmod (n : Int) 1000 = ((n % 1000 : Nat) : Int) := tmod_nat n 1000
  have l1 := Ver.dec_len (n := n / 1000000)
  have l2 := Ver.dec_len (n := n / 1000 % 1000)
  have l3 := Ver.dec_len (n := n % 1000)
  simp only [e1, e2, e3, dec_s (show n / 1000000 < 1000 by omega), dec_s (show n / 1000 % 1000 < 1000 by omega), dec_s (show n % 1000 < 1000 by omega), Option.getD_some, Option.isSome_some]
  rw [catB_small (by simp; omega), catB_small (by simp; omega), catB_small (by simp; omega), catB_small (by simp; omega)]
  unfold Ver.vText
  simp

/-- what the scan's state is in 64 bits -/
structure NumOk (k n p d : Nat) (n' : Int) : Prop where
  fp : p < 10 ^ k
  fd : d ≤ k
  eq : d ≤ 2 → n' = (n : Int)
  d0 : d = 0 → n = 0
  d1 : d = 1 → n < 1001000000000000
  d2 : d = 2 → n < 2000000000000000000

theorem num_loop (s : List UInt8) : ∀ (g k n p d : Nat) (n' : Int), k ≤ min s.length 12 → min s.length 12 - k < g → NumOk k n p d n' →
    (Ver.scan (n, p, d) ((s.take 12).drop k) = none ∧ M.s_l02Num_l0 s g n' (p : Int) (d : Int) (k : Int) = some (.inl (-1))) ∨
    ∃ (m q e : Nat) (m' : Int), Ver.scan (n, p, d) ((s.take 12).drop k) = some (m, q, e) ∧ M.s_l02Num_l0 s g n' (p : Int) (d : Int) (k : Int) = some (.inr (s, m', (q : Int), (e : Int))) ∧ NumOk (min s.length 12) m q e m'
  | 0, k, n, p, d, n', h1, h2, _ => by omega
  | g + 1, k, n, p, d, n', h1, h2, hI => by
    rw [M.s_l02Num_l0]
    have hlen : (s.take 12).length = min s.length 12 := by rw [List.length_take, Nat.min_comm]
    rcases Nat.lt_or_ge k (min s.length 12) with hk | hk
    · have hks : k < s.length := by omega
      have hd : (s.take 12).drop k = s[k] :: (s.take 12).drop (k + 1) := by
        rw [drop_get (by rw [hlen]; exact hk)]; congr 1; rw [List.getElem_take]
      have hp12 : p < 1000000000000 := Nat.lt_of_lt_of_le hI.fp (Nat.le_trans (Nat.pow_le_pow_right (by decide) (show k ≤ 12 by omega)) (by decide))
      have c1 : decide ((k : Int) < ((s.length : Nat) : Int)) = true := by rw [decide_eq_true_eq]; omega
      have c2 : decide ((k : Int) < 12) = true := by rw [decide_eq_true_eq]; omega
      have c3 : inB (k : Int) s.length = true := by rw [inB_nat]; simpa using hks
      have hw : Go.IntKind.wrap .i64 ((k : Int) + 1) = ((k + 1 : Nat) : Int) := by rw [wrap_i64 (by omega) (by omega)]; omega
      rw [hd]
      simp only [c1, c2, c3, hw, Int.toNat_natCast, getD_lt hks, Bool.and_true, Bool.true_and, Bool.true_or, cond_true]
      rw [Ver.scan]
      by_cases h46 : s[k] = 46
      · rw [if_pos h46]
        have : ((((s[k]).toNat : Nat) : Int) == 46) = true := by rw [h46]; decide
        rw [this, cond_true]
        have hw2 : Go.IntKind.wrap .i64 ((d : Int) + 1) = ((d + 1 : Nat) : Int) := by have := hI.fd; rw [wrap_i64 (by omega) (by omega)]; omega
        rw [hw2]
        refine num_loop s g (k + 1) ((n + p) * 1000) 0 (d + 1) _ (by omega) (by omega) ⟨Nat.pow_pos (by decide), by have := hI.fd; omega, fun hd2 => ?_, fun h => by omega, fun h => ?_, fun h => ?_⟩
        · have hn : n < 1001000000000000 := by
            rcases Nat.lt_or_ge d 1 with h | h
            · rw [hI.d0 (by omega)]; decide
            · exact hI.d1 (by omega)
          rw [hI.eq (by omega), wrap_i64 (n := (n : Int) + (p : Int)) (by omega) (by omega), wrap_i64 (by omega) (by omega)]; omega
        · rw [hI.d0 (by omega)]; omega
        · have := hI.d1 (by omega); omega
      · rw [if_neg h46]
        have hne : ((((s[k]).toNat : Nat) : Int) == 46) = false := by
          rw [beq_eq_false_iff_ne]; intro e
          exact h46 (UInt8.toNat.inj (by have : (46 : UInt8).toNat = 46 := rfl; omega))
        rw [hne, cond_false]
        by_cases hdig : 48 ≤ s[k].toNat ∧ s[k].toNat ≤ 57
        · rw [if_pos hdig]
          have d1 : decide ((((s[k]).toNat : Nat) : Int) < 48) = false := by rw [decide_eq_false_iff_not]; omega
          have d2 : decide ((57 : Int) < (((s[k]).toNat : Nat) : Int)) = false := by rw [decide_eq_false_iff_not]; omega
          have hu : Go.IntKind.wrap .u8 ((((s[k]).toNat : Nat) : Int) - 48) = ((s[k].toNat - 48 : Nat) : Int) := by
            have : ∀ m : Fin 58, 48 ≤ m.val → Go.IntKind.wrap .u8 (((m.val : Nat) : Int) - 48) = ((m.val - 48 : Nat) : Int) := by decide
            exact this ⟨s[k].toNat, by omega⟩ hdig.1
          have hw3 : Go.IntKind.wrap .i64 (Go.IntKind.wrap .i64 ((10 : Int) * (p : Int)) + Go.IntKind.wrap .i64 (((s[k].toNat - 48 : Nat) : Int))) = ((10 * p + (s[k].toNat - 48) : Nat) : Int) := by
            rw [wrap_i64 (n := (10 : Int) * (p : Int)) (by omega) (by omega), wrap_i64 (n := ((s[k].toNat - 48 : Nat) : Int)) (by omega) (by omega), wrap_i64 (by omega) (by omega)]; omega
          simp only [d1, d2, Bool.or_false, cond_false, hu, hw3]
          refine num_loop s g (k + 1) n (10 * p + (s[k].toNat - 48)) d n' (by omega) (by omega) ⟨?_, by have := hI.fd; omega, hI.eq, hI.d0, hI.d1, hI.d2⟩
          have := hI.fp; rw [Nat.pow_succ]; omega
        · rw [if_neg hdig]
          have : (decide ((((s[k]).toNat : Nat) : Int) < 48) || decide ((57 : Int) < (((s[k]).toNat : Nat) : Int))) = true := by
            rw [Bool.or_eq_true, decide_eq_true_eq, decide_eq_true_eq]; omega
          rw [this]
          exact .inl ⟨rfl, rfl⟩
    · have hk' : k = min s.length 12 := by omega
      subst hk'
      have hd : (s.take 12).drop (min s.length 12) = [] := by rw [← hlen, List.drop_length]
      have : (decide (((min s.length 12 : Nat) : Int) < ((s.length : Nat) : Int)) && decide (((min s.length 12 : Nat) : Int) < 12)) = false := by
        rw [Bool.and_eq_false_iff, decide_eq_false_iff_not, decide_eq_false_iff_not]; omega
      rw [this, hd]
      exact .inr ⟨n, p, d, n', rfl, rfl, hI⟩

theorem version_s (s : List UInt8) : M.s_VersionOk s = some (verOk s) := by
  have key : ∃ r : Int, M.s_l02Num s = some r ∧ decide (0 ≤ r) = (Ver.specV s).isSome := by
    unfold M.s_l02Num Ver.specV
    have hl := num_loop s bigN 0 0 0 0 0 (Nat.zero_le _) (by have := bigN_le; omega) ⟨by simp, Nat.le_refl _, fun _ => rfl, fun _ => rfl, fun h => by omega, fun h => by omega⟩
    rw [List.drop_zero] at hl
    rcases hl with ⟨e1, e2⟩ | ⟨m, q, e, m', e1, e2, hI⟩
    · have e2' : M.s_l02Num_l0 s bigN 0 0 0 0 = _ := e2
      rw [e1, e2']
      exact ⟨-1, rfl, rfl⟩
    · have e2' : M.s_l02Num_l0 s bigN 0 0 0 0 = _ := e2
      rw [e1, e2']
      simp only
      have hq : q < 1000000000000 := Nat.lt_of_lt_of_le hI.fp (Nat.le_trans (Nat.pow_le_pow_right (by decide) (show min s.length 12 ≤ 12 by omega)) (by decide))
      by_cases he : e = 2
      · subst he
        have hm := hI.d2 rfl
        have hw : Go.IntKind.wrap .i64 (m' + (q : Int)) = ((m + q : Nat) : Int) := by
          rw [hI.eq (by omega), wrap_i64 (by omega) (by omega)]; omega
        rw [hw]
        by_cases hc : q ≤ 999 ∧ m + q < 1000000000
        · have c1 : ((((2 : Nat) : Int) != 2) || decide ((999 : Int) < (q : Int))) = false := by
            rw [Bool.or_eq_false_iff, decide_eq_false_iff_not]; exact ⟨rfl, by omega⟩
          have c2 : (decide ((0 : Int) ≤ ((m + q : Nat) : Int)) && decide (((m + q : Nat) : Int) ≤ 999999999)) = true := by
            rw [Bool.and_eq_true, decide_eq_true_eq, decide_eq_true_eq]; omega
          rw [c1, c2, text_s hc.2]
          by_cases ht : Ver.vText (m + q) = s
          · rw [if_pos ⟨rfl, hc.1, hc.2, ht⟩]
            refine ⟨((m + q : Nat) : Int), ?_, by simp; omega⟩
            simp [ht]
          · rw [if_neg (fun h => ht h.2.2.2)]
            refine ⟨-1, ?_, by simp⟩
            have : (Ver.vText (m + q) == s) = false := by rw [beq_eq_false_iff_ne]; exact ht
            simp [this]
        · rw [if_neg (fun h => hc ⟨h.2.1, h.2.2.1⟩)]
          have c : (((((2 : Nat) : Int) != 2) || decide ((999 : Int) < (q : Int))) || !(decide ((0 : Int) ≤ ((m + q : Nat) : Int)) && decide (((m + q : Nat) : Int) ≤ 999999999))) = true := by
            rw [Bool.or_eq_true, Bool.or_eq_true, decide_eq_true_eq, Bool.not_eq_true', Bool.and_eq_false_iff, decide_eq_false_iff_not, decide_eq_false_iff_not]; omega
          rw [c]
          exact ⟨-1, by simp, by simp⟩
      · rw [if_neg (fun h => he h.1)]
        have c : ((((e : Nat) : Int) != 2)) = true := by rw [bne_iff_ne]; omega
        rw [c]
        exact ⟨-1, by simp, by simp⟩
  obtain ⟨r, h1, h2⟩ := key
  unfold M.s_VersionOk verOk
  rw [h1, Ver.ver_same]
  simp only [Option.isSome_some, Option.getD_some, Bool.and_true, cond_true, h2]
end M
/-
  FACES: the resources that types name; whether a face is right.
-/
set_option linter.unusedVariables false
set_option linter.unusedSimpArgs false
namespace M
open Go.V (inB slB bigN bigN_le)

/-! ### what a type names -/
mutual
def tRes : SType → List (List UInt8)
  | .mk k n l kids => (if namedB (.mk k n l kids) then [n] else []) ++ kRes kids
def kRes : List SType → List (List UInt8)
  | [] => []
  | x :: r => tRes x ++ kRes r
end
theorem tRes_eq (t : SType) : tRes t = (if namedB t then [t.Name] else []) ++ kRes t.Kids := by cases t; rfl
mutual
/-- all names that aren't empty -/
def tNam : SType → List (List UInt8)
  | .mk k n l kids => (if n == [] then [] else [n]) ++ kNam kids
def kNam : List SType → List (List UInt8)
  | [] => []
  | x :: r => tNam x ++ kNam r
end
theorem tNam_eq (t : SType) : tNam t = (if t.Name == [] then [] else [t.Name]) ++ kNam t.Kids := by cases t; rfl

theorem kRes_len : ∀ l : List SType, (∀ x ∈ l, (tRes x).length ≤ tParts x) → (kRes l).length ≤ kSum l
  | [], _ => Nat.le_refl _
  | x :: r, h => by
    have := h x (by simp)
    have := kRes_len r fun y hy => h y (by simp [hy])
    simp only [kRes, kSum, List.length_append]; omega
theorem tRes_len' : ∀ (n : Nat) (t : SType), t.sz < n → (tRes t).length ≤ tParts t
  | 0, t, h => by omega
  | n + 1, t, h => by
    rw [tRes_eq, tParts_eq, List.length_append]
    have := kRes_len t.Kids fun x hx => tRes_len' n x (by have := SType.kid_lt hx; omega)
    split
    · simp; omega
    · simp; omega
theorem tRes_len (t : SType) : (tRes t).length ≤ tParts t := tRes_len' _ t (Nat.lt_succ_self _)

/-- in a type that is right the two are the same -/
theorem tRes_nam' : ∀ (n : Nat) (t : SType), t.sz < n → tShape t = true → tRes t = tNam t
  | 0, t, h, _ => by omega
  | n + 1, t, h, hs => by
    rw [tRes_eq, tNam_eq]
    have hk : ∀ l : List SType, (∀ x ∈ l, x ∈ t.Kids) → kRes l = kNam l := by
      intro l
      induction l with
      | nil => intro _; rfl
      | cons x r ih =>
        intro hl
        have hx := hl x (by simp)
        rw [tShape_eq, Bool.and_eq_true, kShape_all, List.all_eq_true] at hs
        simp only [kRes, kNam]
        rw [ih fun y hy => hl y (by simp [hy]), tRes_nam' n x (by have := SType.kid_lt hx; omega) (hs.2 x hx)]
    rw [hk t.Kids fun _ h => h]
    congr 1
    rw [tShape_eq, Bool.and_eq_true] at hs
    have h1 := hs.1
    unfold shape1 at h1
    simp only [Bool.and_eq_true] at h1
    have h2 := h1.1.2
    cases hn : namedB t
    · rw [hn] at h2
      simp only [Bool.false_eq_true, if_false] at h2 ⊢
      rw [if_pos h2]
    · rw [hn] at h2
      simp only [if_true] at h2 ⊢
      have : (t.Name == []) = false := by
        rw [beq_eq_false_iff_ne]; intro e
        rw [e] at h2; revert h2; decide
      rw [this]; rfl
theorem tRes_nam {t : SType} (h : tShape t = true) : tRes t = tNam t := tRes_nam' _ t (Nat.lt_succ_self _) h

theorem kRes_drop {l : List SType} {k : Nat} (h : k < l.length) : kRes (l.drop k) = tRes l[k] ++ kRes (l.drop (k + 1)) := by rw [drop_get h]; rfl

theorem resources_i : ∀ (m : Nat) (t : SType), t.sz < m → t.sz ≤ 1048576 → M.i_resources_n m t = some (tRes t)
  | 0, t, h, _ => by omega
  | m + 1, t, h, hN => by
    show M.i_resources_b (M.i_resources_n m) t = _
    unfold M.i_resources_b
    have hl := SType.kids_len hN
    have hsum := kSum_sz (SType.kids_le hN)
    have hkl : ∀ k, k ≤ t.Kids.length → (kRes (t.Kids.take k)).length ≤ kSum t.Kids := fun k hk =>
      Nat.le_trans (kRes_len _ fun x _ => tRes_len x) (kSum_take_le _ _)
    have key : ∀ f k (pre : List (List UInt8)), pre.length ≤ 1 → k ≤ t.Kids.length → t.Kids.length - k < f → M.i_resources_l0 (M.i_resources_n m) t.Kids (t.Kids.length : Int) f (k : Int) (pre ++ kRes (t.Kids.take k)) = some (pre ++ kRes t.Kids) := by
      intro f
      induction f with
      | zero => intro k pre _ h1 h2; omega
      | succ f ih =>
        intro k pre hp h1 h2
        rw [M.i_resources_l0]
        rcases Nat.lt_or_ge k t.Kids.length with hk | hk
        · have hx := SType.kid_lt (List.getElem_mem hk)
          have hc := resources_i m t.Kids[k] (by omega) (by omega)
          have hlen := hkl k h1
          have hlx : (tRes t.Kids[k]).length ≤ kSum t.Kids := Nat.le_trans (tRes_len _) (kSum_mem _ _ (List.getElem_mem hk))
          have hd : decide ((pre ++ kRes (t.Kids.take k)).length + (tRes t.Kids[k]).length ≤ 1073741824) = true := by rw [decide_eq_true_eq, List.length_append]; omega
          have ht : kRes (t.Kids.take (k + 1)) = kRes (t.Kids.take k) ++ tRes t.Kids[k] := by
            have app : ∀ (a b : List SType), kRes (a ++ b) = kRes a ++ kRes b := fun a b => by
              induction a with
              | nil => rfl
              | cons x r ih => simp only [List.cons_append, kRes, ih, List.append_assoc]
            rw [List.take_add_one, List.getElem?_eq_getElem hk, app]
            simp [kRes]
          simp only [SType.re_eq, getD_lt hk, hc, Int.toNat_natCast, inB_nat, Int.ofNat_lt, hk, decide_true, cond_true, Bool.true_and, Bool.and_true, wrapk hk (big_of hl), Option.getD_some, Option.isSome_some, hd]
          rw [List.append_assoc, ← ht]
          exact ih (k + 1) pre hp (by omega) (by omega)
        · have : k = t.Kids.length := by omega
          subst this
          simp
    have e1 := key bigN 0 [t.Name] (by simp) (Nat.zero_le _) (by have := bigN_le; omega)
    have e2 := key bigN 0 [] (by simp) (Nat.zero_le _) (by have := bigN_le; omega)
    rw [List.take_zero] at e1 e2
    have e1' : M.i_resources_l0 (M.i_resources_n m) t.Kids (t.Kids.length : Int) bigN 0 ([] ++ [t.Name]) = _ := e1
    have e2' : M.i_resources_l0 (M.i_resources_n m) t.Kids (t.Kids.length : Int) bigN 0 [] = _ := e2
    rw [e1', e2', tRes_eq]
    have hnb : ((t.Kind == 20) || (t.Kind == 21)) = namedB t := rfl
    rw [hnb]
    cases namedB t <;> simp

/-- what the functions' types name -/
def fRes (f : SFuncType) : List (List UInt8) := tRes f.Result ++ f.Params.flatMap fun p => tRes p.Type_
theorem tParts_small {t : SType} (h : tOk t = true) : tParts t ≤ 24 := by
  unfold tOk at h; simp only [Bool.and_eq_true, decide_eq_true_eq] at h; exact h.1.2
theorem fRes_bound {l : List SParam} (h : szL SParam.sz l ≤ 1048576) : ∀ k, ((l.take k).flatMap fun p => tRes p.Type_).length ≤ szL SParam.sz l + l.length := fun k => by
  have key : ∀ l : List SParam, (l.flatMap fun p => tRes p.Type_).length ≤ szL SParam.sz l + l.length := by
    intro l
    induction l with
    | nil => simp
    | cons p r ih =>
      have h1 := tRes_len p.Type_
      have h2 := tParts_le p.Type_
      have h3 := SParam.sz_eq p
      simp only [List.flatMap_cons, List.length_append, szL, List.length_cons]; omega
  have h1 := key (l.take k)
  have h2 : szL SParam.sz (l.take k) ≤ szL SParam.sz l := by
    have : ∀ (l : List SParam) k, szL SParam.sz (l.take k) ≤ szL SParam.sz l := by
      intro l
      induction l with
      | nil => intro k; simp
      | cons x r ih =>
        intro k
        cases k with
        | zero => simp [szL]
        | succ k => simp only [List.take_succ_cons, szL]; have := ih k; omega
    exact this l k
  have h3 : (l.take k).length ≤ l.length := by simp; omega
  omega

theorem funcRes_i (f : SFuncType) (h : f.sz ≤ 1048576) : M.i_funcResources f = some (fRes f) := by
  rw [SFuncType.sz_eq] at h
  have hl : f.Params.length ≤ 1048576 := Nat.le_trans (szL_len SParam.sz f.Params) (by omega)
  have hr : M.i_resources f.Result = some (tRes f.Result) := resources_i bigN _ (bigN_gt (by omega)) (by omega)
  have hrl : (tRes f.Result).length ≤ f.Result.sz + 1 := Nat.le_trans (tRes_len _) (tParts_le _)
  have key : ∀ g k, k ≤ f.Params.length → f.Params.length - k < g → M.i_funcResources_l0 f.Params (f.Params.length : Int) g (k : Int) (tRes f.Result ++ (f.Params.take k).flatMap fun p => tRes p.Type_) = some (fRes f) := by
    intro g
    induction g with
    | zero => intro k h1 h2; omega
    | succ g ih =>
      intro k h1 h2
      rw [M.i_funcResources_l0]
      rcases Nat.lt_or_ge k f.Params.length with hk | hk
      · have hm := szL_mem SParam.sz _ _ (List.getElem_mem hk)
        have hty : f.Params[k].Type_.sz ≤ 1048576 := SParam.type_le (N := 1048576) (by omega)
        have hc : M.i_resources f.Params[k].Type_ = some (tRes f.Params[k].Type_) := resources_i bigN _ (bigN_gt hty) hty
        have hb := fRes_bound (l := f.Params) (by omega) k
        have hb2 : (tRes f.Params[k].Type_).length ≤ 1048577 := by have := tRes_len f.Params[k].Type_; have := tParts_le f.Params[k].Type_; omega
        have hd : decide ((tRes f.Result ++ (f.Params.take k).flatMap fun p => tRes p.Type_).length + (tRes f.Params[k].Type_).length ≤ 1073741824) = true := by
          rw [decide_eq_true_eq, List.length_append]; omega
        simp only [SType.re_eq, getD_lt hk, hc, Int.toNat_natCast, inB_nat, Int.ofNat_lt, hk, decide_true, cond_true, Bool.true_and, Bool.and_true, wrapk hk (big_of hl), Option.getD_some, Option.isSome_some, hd]
        have := ih (k + 1) (by omega) (by omega)
        rw [List.take_add_one, List.getElem?_eq_getElem hk, List.flatMap_append] at this
        simpa [List.append_assoc] using this
      · have : k = f.Params.length := by omega
        subst this
        rw [List.take_length]
        have : decide (((f.Params.length : Nat) : Int) < ((f.Params.length : Nat) : Int)) = false := by simp
        rw [this]; rfl
  have e := key bigN 0 (Nat.zero_le _) (by have := bigN_le; omega)
  unfold M.i_funcResources
  have e' : M.i_funcResources_l0 f.Params (f.Params.length : Int) bigN 0 (tRes f.Result) = some (fRes f) := by simpa using e
  simp only [SType.re_eq, hr, Option.getD_some, e', Option.isSome_some, Bool.and_true, cond_true]
end M
/-
  FACES: what the reference finds of the resources that types name.
-/
set_option linter.unusedVariables false
set_option linter.unusedSimpArgs false
namespace M
open Go.V (inB slB bigN bigN_le)

theorem putText_s (l : List (List UInt8)) (s : List UInt8) (hl : l.length ≤ 16777216) : ∃ out, M.s_l03PutText l s = some out ∧ (∀ x, x ∈ out ↔ x ∈ l ∨ x = s) ∧ out.length ≤ l.length + 1 := by
  have key : ∀ g k (done : Bool) (out : List (List UInt8)), k ≤ l.length → l.length - k < g → (∀ x, x ∈ out ↔ x ∈ l.take k ∨ (done = true ∧ x = s)) → out.length ≤ k + 1 → (done = false → out.length ≤ k) →
      ∃ done' out', M.s_l03PutText_l0 l s g done (k : Int) out = some (s, done', out') ∧ (∀ x, x ∈ out' ↔ x ∈ l ∨ (done' = true ∧ x = s)) ∧ out'.length ≤ l.length + 1 ∧ (done' = false → out'.length ≤ l.length) := by
    intro g
    induction g with
    | zero => intro k done out h1 h2; omega
    | succ g ih =>
      intro k done out h1 h2 hm hlen hlen2
      rw [M.s_l03PutText_l0]
      rcases Nat.lt_or_ge k l.length with hk | hk
      · have ht : ∀ x, x ∈ l.take (k + 1) ↔ x ∈ l.take k ∨ x = l[k] := fun x => by
          rw [List.take_add_one, List.getElem?_eq_getElem hk, List.mem_append]; simp
        have d2 : decide (out.length + ([l[k]] : List (List UInt8)).length ≤ 1073741824) = true := by rw [decide_eq_true_eq]; simp; omega
        have d3 : decide (out.length + ([s] : List (List UInt8)).length ≤ 1073741824) = true := by rw [decide_eq_true_eq]; simp; omega
        have d4 : decide ((out ++ [s]).length + ([l[k]] : List (List UInt8)).length ≤ 1073741824) = true := by rw [decide_eq_true_eq]; simp; omega
        simp only [getD_lt hk, Int.toNat_natCast, inB_nat, Int.ofNat_lt, hk, decide_true, cond_true, Bool.true_and, Bool.and_true, Bool.true_or, wrapk hk (by omega : l.length < 2 ^ 62), d2, d3, d4]
        have hq : ∀ b : Bool, (((decide True && true || !b) && (decide True && true || b))) = true := fun b => by cases b <;> rfl
        by_cases he : l[k] = s
        · have hb : (l[k] == s) = true := by rw [he]; exact beq_self_eq_true s
          simp only [hb, Bool.true_or, Bool.not_true, Bool.false_and, cond_false, Bool.and_true, Bool.true_and, Bool.or_true, cond_true]
          refine ih (k + 1) true _ (by omega) (by omega) (fun x => ?_) (by simp; omega) (fun h => by cases h)
          rw [List.mem_append, hm, ht]
          simp only [List.mem_singleton, true_and]
          constructor
          · rintro ((h | ⟨-, h⟩) | h)
            · exact .inl (.inl h)
            · exact .inr h
            · exact .inl (.inr h)
          · rintro ((h | h) | h)
            · exact .inl (.inl h)
            · exact .inr h
            · exact .inr (by rw [h, he])
        · have hb : (l[k] == s) = false := by rw [beq_eq_false_iff_ne]; exact he
          simp only [hb, Bool.false_or, Bool.or_false, Bool.not_false, Bool.or_true, Bool.and_true, Bool.true_and, cond_true]
          cases done
          · simp only [Bool.not_false, Bool.true_and]
            cases hlt : Go.V.ltS l[k] s
            · simp only [Bool.not_false, cond_true]
              refine ih (k + 1) true _ (by omega) (by omega) (fun x => ?_) (by simp; have := hlen2 rfl; omega) (fun h => by cases h)
              rw [List.mem_append, List.mem_append, hm, ht]
              simp only [List.mem_singleton, true_and, Bool.false_eq_true, false_and, or_false]
              constructor
              · rintro ((h | h) | h)
                · exact .inl (.inl h)
                · exact .inr h
                · exact .inl (.inr h)
              · rintro ((h | h) | h)
                · exact .inl (.inl h)
                · exact .inr h
                · exact .inl (.inr h)
            · simp only [Bool.not_true, cond_false]
              refine ih (k + 1) false _ (by omega) (by omega) (fun x => ?_) (by simp; have := hlen2 rfl; omega) (fun h => by simp; have := hlen2 rfl; omega)
              rw [List.mem_append, hm, ht]
              simp
          · simp only [Bool.not_true, Bool.false_and, cond_false]
            refine ih (k + 1) true _ (by omega) (by omega) (fun x => ?_) (by simp; omega) (fun h => by cases h)
            rw [List.mem_append, hm, ht]
            simp only [List.mem_singleton, true_and]
            constructor
            · rintro ((h | h) | h)
              · exact .inl (.inl h)
              · exact .inr h
              · exact .inl (.inr h)
            · rintro ((h | h) | h)
              · exact .inl (.inl h)
              · exact .inr h
              · exact .inl (.inr h)
      · have : k = l.length := by omega
        subst this
        have : decide (((l.length : Nat) : Int) < ((l.length : Nat) : Int)) = false := by simp
        rw [this]
        exact ⟨done, out, rfl, by simpa using hm, hlen, hlen2⟩
  obtain ⟨done, out, e, h1, h2, h3⟩ := key bigN 0 false [] (Nat.zero_le _) (by have := bigN_le; omega) (by simp) (by simp) (by simp)
  have e' : M.s_l03PutText_l0 l s bigN false 0 [] = _ := e
  unfold M.s_l03PutText
  rw [e']
  cases done
  · have hd : decide (out.length + ([s] : List (List UInt8)).length ≤ 1073741824) = true := by rw [decide_eq_true_eq]; have := h3 rfl; simp; omega
    simp only [Bool.not_false, cond_true, hd, Bool.and_true]
    refine ⟨out ++ [s], rfl, fun x => ?_, by simp; exact h3 rfl⟩
    rw [List.mem_append, h1]; simp
  · simp only [Bool.not_true, cond_false]
    exact ⟨out, rfl, fun x => by rw [h1]; simp, h2⟩

theorem kNam_drop {l : List SType} {k : Nat} (h : k < l.length) : kNam (l.drop k) = tNam l[k] ++ kNam (l.drop (k + 1)) := by rw [drop_get h]; rfl

theorem resources_s : ∀ (m : Nat) (t : SType) (out : List (List UInt8)), t.sz < m → t.sz ≤ 1048576 → out.length + tParts t ≤ 8388608 →
    ∃ out', M.s_l03Resources_n m t out = some out' ∧ (∀ x, x ∈ out' ↔ x ∈ out ∨ x ∈ tNam t) ∧ out'.length ≤ out.length + tParts t
  | 0, t, out, h, _, _ => by omega
  | m + 1, t, out, h, hN, ho => by
    show ∃ out', M.s_l03Resources_b (M.s_l03Resources_n m) t out = _ ∧ _
    unfold M.s_l03Resources_b
    have hl := SType.kids_len hN
    rw [tParts_eq] at ho ⊢
    have key : ∀ f k (o : List (List UInt8)), k ≤ t.Kids.length → t.Kids.length - k < f → o.length + kSum (t.Kids.drop k) ≤ 8388608 →
        ∃ out', M.s_l03Resources_l0 (M.s_l03Resources_n m) f o (k : Int) t = some out' ∧ (∀ x, x ∈ out' ↔ x ∈ o ∨ x ∈ kNam (t.Kids.drop k)) ∧ out'.length ≤ o.length + kSum (t.Kids.drop k) := by
      intro f
      induction f with
      | zero => intro k o h1 h2; omega
      | succ f ih =>
        intro k o h1 h2 h3
        rw [M.s_l03Resources_l0]
        rcases Nat.lt_or_ge k t.Kids.length with hk | hk
        · have hx := SType.kid_lt (List.getElem_mem hk)
          rw [kSum_drop hk] at h3 ⊢
          obtain ⟨o1, e1, g1, g2⟩ := resources_s m t.Kids[k] o (by omega) (by omega) (by omega)
          simp only [SType.re_eq, getD_lt hk, e1, Int.toNat_natCast, inB_nat, Int.ofNat_lt, hk, decide_true, cond_true, Bool.true_and, Bool.and_true, wrapk hk (big_of hl), Option.getD_some, Option.isSome_some]
          obtain ⟨o2, e2, g3, g4⟩ := ih (k + 1) o1 (by omega) (by omega) (by omega)
          refine ⟨o2, e2, fun x => ?_, by omega⟩
          rw [g3, g1, kNam_drop hk, List.mem_append]
          constructor
          · rintro ((h | h) | h)
            · exact .inl h
            · exact .inr (.inl h)
            · exact .inr (.inr h)
          · rintro (h | h | h)
            · exact .inl (.inl h)
            · exact .inl (.inr h)
            · exact .inr h
        · have : k = t.Kids.length := by omega
          subst this
          have : decide (((t.Kids.length : Nat) : Int) < ((t.Kids.length : Nat) : Int)) = false := by simp
          rw [this, List.drop_length]
          exact ⟨o, rfl, fun x => by simp [kNam], by simp [kSum]⟩
    rw [SType.re_eq]
    have hnm := tNam_eq t
    cases hn : t.Name == []
    · simp only [Bool.not_false, cond_true]
      obtain ⟨o1, e1, g1, g2⟩ := putText_s out t.Name (by omega)
      rw [e1]
      simp only [Option.getD_some, Option.isSome_some, Bool.and_true, cond_true]
      obtain ⟨o2, e2, g3, g4⟩ := key bigN 0 o1 (Nat.zero_le _) (by have := bigN_le; omega) (by rw [List.drop_zero]; omega)
      rw [List.drop_zero] at g3 g4
      have e2' : M.s_l03Resources_l0 (M.s_l03Resources_n m) bigN o1 0 t = _ := e2
      rw [e2']
      refine ⟨o2, rfl, fun x => ?_, by omega⟩
      rw [g3, g1, hnm, hn]
      simp only [Bool.false_eq_true, if_false, List.mem_append, List.mem_singleton]
      constructor
      · rintro ((h | h) | h)
        · exact .inl h
        · exact .inr (.inl h)
        · exact .inr (.inr h)
      · rintro (h | h | h)
        · exact .inl (.inl h)
        · exact .inl (.inr h)
        · exact .inr h
    · simp only [Bool.not_true, cond_false]
      obtain ⟨o2, e2, g3, g4⟩ := key bigN 0 out (Nat.zero_le _) (by have := bigN_le; omega) (by rw [List.drop_zero]; omega)
      rw [List.drop_zero] at g3 g4
      have e2' : M.s_l03Resources_l0 (M.s_l03Resources_n m) bigN out 0 t = _ := e2
      rw [e2']
      refine ⟨o2, rfl, fun x => ?_, by omega⟩
      rw [g3, hnm, hn]; simp

/-- all that a function's types name is in the list -/
theorem known_s (f : SFuncType) (l : List (List UInt8)) (h : f.sz ≤ 1048576) (hl : l.length ≤ 1048576) (hok : fOk f = true) : M.s_l03Known f l = some ((fRes f).all fun x => l.any fun y => x == y) := by
  rw [SFuncType.sz_eq] at h
  have hpl : f.Params.length ≤ 1048576 := Nat.le_trans (szL_len SParam.sz f.Params) (by omega)
  have hps : ∀ p ∈ f.Params, tOk p.Type_ = true := fun p hp => by
    unfold fOk at hok
    simp only [Bool.and_eq_true, List.all_eq_true] at hok
    have := hok.1.1.2.1 p hp
    unfold parOk at this
    simp only [Bool.not_eq_true', Bool.or_eq_false_iff, Bool.not_eq_false'] at this
    exact this.1.2
  have hres : tOk f.Result = true := by
    unfold fOk at hok; simp only [Bool.and_eq_true] at hok; exact hok.1.2
  have hp6 : f.Params.length ≤ 6 := by
    unfold fOk at hok; simp only [Bool.and_eq_true, decide_eq_true_eq] at hok; exact hok.1.1.1
  have shp : ∀ {t : SType}, tOk t = true → tShape t = true := fun {t} h => by unfold tOk at h; simp only [Bool.and_eq_true] at h; exact h.2
  obtain ⟨o0, e0, g0, k0⟩ := resources_s bigN f.Result [] (bigN_gt (by omega)) (by omega) (by have := tParts_small hres; simp; omega)
  have e0' : M.s_l03Resources f.Result [] = some o0 := e0
  have key0 : ∀ g k (o : List (List UInt8)), k ≤ f.Params.length → f.Params.length - k < g → o.length + 24 * (f.Params.length - k) ≤ 1000 →
      ∃ o', M.s_l03Known_l0 l g o (k : Int) f = some (l, o') ∧ (∀ x, x ∈ o' ↔ x ∈ o ∨ x ∈ (f.Params.drop k).flatMap fun p => tRes p.Type_) ∧ o'.length ≤ 1000 := by
    intro g
    induction g with
    | zero => intro k o h1 h2; omega
    | succ g ih =>
      intro k o h1 h2 h3
      rw [M.s_l03Known_l0]
      rcases Nat.lt_or_ge k f.Params.length with hk | hk
      · have hm := szL_mem SParam.sz _ _ (List.getElem_mem hk)
        have hty : f.Params[k].Type_.sz ≤ 1048576 := SParam.type_le (N := 1048576) (by omega)
        have ht := hps _ (List.getElem_mem hk)
        have h24 := tParts_small ht
        obtain ⟨o1, e1, g1, g2⟩ := resources_s bigN f.Params[k].Type_ o (bigN_gt hty) hty (by omega)
        have e1' : M.s_l03Resources f.Params[k].Type_ o = some o1 := e1
        simp only [SType.re_eq, SFuncType.re_eq, getD_lt hk, e1', Int.toNat_natCast, inB_nat, Int.ofNat_lt, hk, decide_true, cond_true, Bool.true_and, Bool.and_true, wrapk hk (big_of hpl), Option.getD_some, Option.isSome_some]
        obtain ⟨o2, e2, g3, g4⟩ := ih (k + 1) o1 (by omega) (by omega) (by omega)
        refine ⟨o2, e2, fun x => ?_, g4⟩
        rw [g3, g1, drop_get hk, List.flatMap_cons, List.mem_append, tRes_nam (shp ht)]
        constructor
        · rintro ((h | h) | h)
          · exact .inl h
          · exact .inr (.inl h)
          · exact .inr (.inr h)
        · rintro (h | h | h)
          · exact .inl (.inl h)
          · exact .inl (.inr h)
          · exact .inr h
      · have : k = f.Params.length := by omega
        subst this
        have : decide (((f.Params.length : Nat) : Int) < ((f.Params.length : Nat) : Int)) = false := by simp
        rw [this, List.drop_length]
        exact ⟨o, rfl, fun x => by simp, by omega⟩
  obtain ⟨all, ea, ga, la⟩ := key0 bigN 0 o0 (Nat.zero_le _) (by have := bigN_le; omega) (by have := tParts_small hres; simp at k0; omega)
  have ea' : M.s_l03Known_l0 l bigN o0 0 f = some (l, all) := ea
  have hmem : ∀ x, x ∈ all ↔ x ∈ fRes f := fun x => by
    rw [ga, g0, List.drop_zero]
    unfold fRes
    rw [List.mem_append, tRes_nam (shp hres)]
    simp
  have inner : ∀ i (hi : i < all.length), M.s_l03Known_l1_0 l all (i : Int) bigN false 0 = some (l, all, (i : Int), l.any fun y => all[i] == y) := fun i hi => by
    have k1 : ∀ g k (met : Bool), k ≤ l.length → l.length - k < g → M.s_l03Known_l1_0 l all (i : Int) g met (k : Int) = some (l, all, (i : Int), met || (l.drop k).any fun y => all[i] == y) := by
      intro g
      induction g with
      | zero => intro k met h1 h2; omega
      | succ g ih =>
        intro k met h1 h2
        rw [M.s_l03Known_l1_0]
        rcases Nat.lt_or_ge k l.length with hk | hk
        · simp only [getD_lt hk, getD_lt hi, Int.toNat_natCast, inB_nat, Int.ofNat_lt, hk, hi, decide_true, cond_true, Bool.true_or, Bool.true_and, Bool.and_true, wrapk hk (big_of hl)]
          rw [ih (k + 1) _ (by omega) (by omega), any_drop _ hk, ← Bool.or_assoc]
          have : (l[k] == all[i]) = (all[i] == l[k]) := by rw [Bool.eq_iff_iff, beq_iff_eq, beq_iff_eq]; exact eq_comm
          rw [this]
        · have : k = l.length := by omega
          subst this
          have : decide (((l.length : Nat) : Int) < ((l.length : Nat) : Int)) = false := by simp
          rw [this, List.drop_length]
          simp
    have := k1 bigN 0 false (Nat.zero_le _) (by have := bigN_le; omega)
    simpa using this
  have outer : M.s_l03Known_l1 bigN l all 0 = some (if all.all (fun x => l.any fun y => x == y) then .inr () else .inl false) :=
    all_list (p := fun x => l.any fun y => x == y) (F := fun g k => M.s_l03Known_l1 g l all k) (e := ()) (b := false) all (by omega) (fun g k hk => by
      show M.s_l03Known_l1 (g + 1) l all (k : Int) = _
      rw [M.s_l03Known_l1]
      have hin := inner k hk
      simp only [hin, Int.ofNat_lt, hk, decide_true, cond_true, wrapk hk (by omega : all.length < 2 ^ 62)]
      cases (l.any fun y => all[k] == y) <;> rfl) (fun g => by
      show M.s_l03Known_l1 (g + 1) l all (all.length : Int) = _
      rw [M.s_l03Known_l1]; simp)
  unfold M.s_l03Known
  simp only [SType.re_eq, SFuncType.re_eq, e0', Option.getD_some, ea', outer, Option.isSome_some, Bool.and_true, cond_true]
  have hall : all.all (fun x => l.any fun y => x == y) = (fRes f).all fun x => l.any fun y => x == y := by
    rw [Bool.eq_iff_iff, List.all_eq_true, List.all_eq_true]
    exact ⟨fun h x hx => h x ((hmem x).2 hx), fun h x hx => h x ((hmem x).1 hx)⟩
  rw [hall]
  cases (fRes f).all fun x => l.any fun y => x == y <;> simp
end M
/-
  FACES: whether a face is right; the law on a face's name.
-/
set_option linter.unusedVariables false
set_option linter.unusedSimpArgs false
namespace M
open Go.V (inB slB bigN bigN_le)

/-- each text is less than the next -/
def riseS (l : List (List UInt8)) : Bool := (List.range l.length).all fun k => (k == 0) || Go.V.ltS (l.getD (k - 1) []) (l.getD k [])

theorem increasing_i (l : List (List UInt8)) (h : l.length ≤ 1048576) : M.i_increasing l = some (riseS l) := by
  have key : ∀ g k, 1 ≤ k → k ≤ l.length → l.length - k < g → M.i_increasing_l0 l g (k : Int) = some (if (List.range' k (l.length - k)).all (fun k => Go.V.ltS (l.getD (k - 1) []) (l.getD k [])) then .inr () else .inl false) := by
    intro g
    induction g with
    | zero => intro k h0 h1 h2; omega
    | succ g ih =>
      intro k h0 h1 h2
      rw [M.i_increasing_l0]
      rcases Nat.lt_or_ge k l.length with hk | hk
      · have hk1 : k - 1 < l.length := by omega
        have hr : List.range' k (l.length - k) = k :: List.range' (k + 1) (l.length - (k + 1)) := by
          rw [show l.length - k = (l.length - (k + 1)) + 1 by omega]; rfl
        rw [hr, List.all_cons]
        simp only [wrapp h0 (Nat.le_of_lt hk) (big_of h), Int.toNat_natCast, inB_nat, Int.ofNat_lt, hk, hk1, decide_true, cond_true, Bool.and_true, wrapk hk (big_of h), ih (k + 1) (by omega) (by omega) (by omega)]
        cases Go.V.ltS (l.getD (k - 1) []) (l.getD k []) <;> rfl
      · have : k = l.length := by omega
        subst this
        have : decide (((l.length : Nat) : Int) < ((l.length : Nat) : Int)) = false := by simp
        rw [this, Nat.sub_self]; rfl
  unfold M.i_increasing riseS
  rcases Nat.eq_zero_or_pos l.length with h0 | h0
  · have : l = [] := List.eq_nil_of_length_eq_zero h0
    subst this
    obtain ⟨f, hf⟩ : ∃ f, bigN = f + 1 := ⟨bigN - 1, by have := bigN_le; omega⟩
    rw [hf, M.i_increasing_l0]; rfl
  · have e := key bigN 1 (Nat.le_refl _) h0 (by have := bigN_le; omega)
    have e' : M.i_increasing_l0 l bigN 1 = _ := e
    rw [e']
    have hr : List.range l.length = 0 :: List.range' 1 (l.length - 1) := by
      rw [List.range_eq_range', show l.length = (l.length - 1) + 1 by omega]; rfl
    have hc : (List.range' 1 (l.length - 1)).all (fun k => (k == 0) || Go.V.ltS (l.getD (k - 1) []) (l.getD k [])) = (List.range' 1 (l.length - 1)).all (fun k => Go.V.ltS (l.getD (k - 1) []) (l.getD k [])) := by
      rw [Bool.eq_iff_iff, List.all_eq_true, List.all_eq_true]
      have hp : ∀ k ∈ List.range' 1 (l.length - 1), (k == 0) = false := fun k hk => by
        rw [List.mem_range'] at hk; obtain ⟨i, _, rfl⟩ := hk; rw [beq_eq_false_iff_ne]; omega
      exact ⟨fun h k hk => by have := h k hk; rwa [hp k hk, Bool.false_or] at this, fun h k hk => by rw [hp k hk, Bool.false_or]; exact h k hk⟩
    rw [hr, List.all_cons, hc]
    simp only [beq_self_eq_true, Bool.true_or, Bool.true_and]
    cases (List.range' 1 (l.length - 1)).all (fun k => Go.V.ltS (l.getD (k - 1) []) (l.getD k [])) <;> simp

/-- a function of a face that is right -/
def fnOk (R : List (List UInt8)) (x : SFunc) : Bool := (nameOk x.Name && fOk x.Type_) && (fRes x.Type_).all fun n => R.any fun y => n == y
/-- a face that is right -/
def faceOk (f : SFace) : Bool :=
  (((nameOk f.Package && nameOk f.Name) && verOk f.Version) && (decide (f.Resources.length ≤ 4) && decide (f.Funcs.length ≤ 8))) &&
    ((riseS f.Resources && f.Resources.all nameOk) && (f.Funcs.all (fnOk f.Resources) && riseS (f.Funcs.map SFunc.Name)))

theorem gtN (n m : Nat) : decide (((m : Nat) : Int) < ((n : Nat) : Int)) = !decide (n ≤ m) := by
  rw [Bool.eq_iff_iff]; simp only [Bool.not_eq_true', decide_eq_true_eq, decide_eq_false_iff_not]; omega
theorem gt4 (n : Nat) : decide ((4 : Int) < ((n : Nat) : Int)) = !decide (n ≤ 4) := gtN n 4
theorem gt8 (n : Nat) : decide ((8 : Int) < ((n : Nat) : Int)) = !decide (n ≤ 8) := gtN n 8
theorem map_getD {l : List SFunc} (k : Nat) : (l.map SFunc.Name).getD k [] = (l.getD k SFunc.zero).Name := by
  rw [List.getD_eq_getElem?_getD, List.getD_eq_getElem?_getD, List.getElem?_map]
  cases l[k]? <;> rfl

theorem face_s (f : SFace) (h : f.sz ≤ 1048576) : M.s_l03Face f = some (faceOk f) := by
  rw [SFace.sz_eq] at h
  have hrl : f.Resources.length ≤ 1048576 := Nat.le_trans (szL_len List.length f.Resources) (by omega)
  have hfl : f.Funcs.length ≤ 1048576 := Nat.le_trans (szL_len SFunc.sz f.Funcs) (by omega)
  have hn1 := nameOk_s f.Package (by omega)
  have hn2 := nameOk_s f.Name (by omega)
  have hv := version_s f.Version
  have l0 : M.s_l03Face_l0 f bigN 0 = some (if (List.range f.Resources.length).all (fun i => nameOk (f.Resources.getD i []) && ((i == 0) || Go.V.ltS (f.Resources.getD (i - 1) []) (f.Resources.getD i []))) then .inr f else .inl false) :=
    all_loop (p := fun i => nameOk (f.Resources.getD i []) && ((i == 0) || Go.V.ltS (f.Resources.getD (i - 1) []) (f.Resources.getD i []))) (F := fun g k => M.s_l03Face_l0 f g k) (e := f) (b := false) f.Resources.length (by omega) (fun g k hk => by
      show M.s_l03Face_l0 f (g + 1) (k : Int) = _
      rw [M.s_l03Face_l0]
      have hnm := nameOk_s (f.Resources.getD k []) (by rw [getD_lt hk]; have := szL_mem List.length _ _ (List.getElem_mem hk); omega)
      rcases Nat.eq_zero_or_pos k with h0 | h0
      · subst h0
        simp only [hnm, Int.toNat_natCast, inB_nat, Int.ofNat_lt, hk, decide_true, cond_true, Bool.true_and, Bool.and_true, wrapk hk (big_of hrl), Option.getD_some, Option.isSome_some, Bool.true_or]
        cases nameOk (f.Resources.getD 0 []) <;> simp
      · have hk1 : k - 1 < f.Resources.length := by omega
        have hp : decide ((0 : Int) < (k : Int)) = true := by rw [decide_eq_true_eq]; omega
        have hz : (k == 0) = false := by rw [beq_eq_false_iff_ne]; omega
        simp only [hnm, wrapp h0 (Nat.le_of_lt hk) (big_of hrl), hp, hz, Int.toNat_natCast, inB_nat, Int.ofNat_lt, hk, hk1, decide_true, cond_true, Bool.true_and, Bool.and_true, wrapk hk (big_of hrl), Option.getD_some, Option.isSome_some, Bool.true_or, Bool.false_or]
        cases nameOk (f.Resources.getD k []) <;> cases Go.V.ltS (f.Resources.getD (k - 1) []) (f.Resources.getD k []) <;> rfl) (fun g => by
      show M.s_l03Face_l0 f (g + 1) (f.Resources.length : Int) = _
      rw [M.s_l03Face_l0]; simp)
  have l1 : M.s_l03Face_l1 f bigN 0 = some (if (List.range f.Funcs.length).all (fun i => fnOk f.Resources (f.Funcs.getD i SFunc.zero) && ((i == 0) || Go.V.ltS (f.Funcs.getD (i - 1) SFunc.zero).Name (f.Funcs.getD i SFunc.zero).Name)) then .inr () else .inl false) :=
    all_loop (p := fun i => fnOk f.Resources (f.Funcs.getD i SFunc.zero) && ((i == 0) || Go.V.ltS (f.Funcs.getD (i - 1) SFunc.zero).Name (f.Funcs.getD i SFunc.zero).Name)) (F := fun g k => M.s_l03Face_l1 f g k) (e := ()) (b := false) f.Funcs.length (by omega) (fun g k hk => by
      show M.s_l03Face_l1 f (g + 1) (k : Int) = _
      rw [M.s_l03Face_l1]
      have hm := szL_mem SFunc.sz _ _ (List.getElem_mem hk)
      have hsz := SFunc.sz_eq f.Funcs[k]
      have hnm := nameOk_s f.Funcs[k].Name (by omega)
      have hfn := func_s f.Funcs[k].Type_ (by omega)
      have hkn := known_s f.Funcs[k].Type_ f.Resources (by omega) hrl
      have fin : ∀ (r : Bool), ((k == 0) || Go.V.ltS (f.Funcs.getD (k - 1) SFunc.zero).Name (f.Funcs.getD k SFunc.zero).Name) = r → (decide ((0 : Int) < (k : Int)) && !Go.V.ltS (f.Funcs.getD (Int.toNat (Go.IntKind.wrap .i64 ((k : Int) - 1))) SFunc.zero).Name (f.Funcs[k]).Name) = !r ∧
          (inB (Go.IntKind.wrap .i64 ((k : Int) - 1)) f.Funcs.length || !(decide ((0 : Int) < (k : Int)))) = true := fun r hr => by
        rcases Nat.eq_zero_or_pos k with h0 | h0
        · subst h0
          simp at hr ⊢; exact hr.symm ▸ rfl
        · have hk1 : k - 1 < f.Funcs.length := by omega
          have hp : decide ((0 : Int) < (k : Int)) = true := by rw [decide_eq_true_eq]; omega
          have hz : (k == 0) = false := by rw [beq_eq_false_iff_ne]; omega
          rw [wrapp h0 (Nat.le_of_lt hk) (big_of hfl), hp, Int.toNat_natCast, inB_nat]
          rw [hz, Bool.false_or, getD_lt hk] at hr
          rw [hr]; simp [hk1]
      generalize hr : ((k == 0) || Go.V.ltS (f.Funcs.getD (k - 1) SFunc.zero).Name (f.Funcs.getD k SFunc.zero).Name) = r
      obtain ⟨f1, f2⟩ := fin r hr
      simp only [SFuncType.re_eq, getD_lt hk, hnm, hfn, f1, Int.toNat_natCast, inB_nat, Int.ofNat_lt, hk, decide_true, cond_true, Bool.true_and, Bool.and_true, wrapk hk (big_of hfl), Option.getD_some, Option.isSome_some, Bool.true_or]
      have hin : ∀ b : Bool, (inB (Go.IntKind.wrap .i64 ((k : Int) - 1)) f.Funcs.length || (!(b && (decide ((0 : Int) < (k : Int)) == true)))) = true := fun b => by
        cases b
        · simp
        · revert f2
          cases inB (Go.IntKind.wrap .i64 ((k : Int) - 1)) f.Funcs.length <;> cases decide ((0 : Int) < (k : Int)) <;> simp
      simp only [hin, Bool.and_true, Bool.true_and]
      unfold fnOk
      cases hN : nameOk f.Funcs[k].Name
      · simp
      · cases r
        · simp
        · cases hF : fOk f.Funcs[k].Type_
          · simp
          · rw [hkn hF]
            cases ((fRes f.Funcs[k].Type_).all fun n => f.Resources.any fun y => n == y) <;> simp) (fun g => by
      show M.s_l03Face_l1 f (g + 1) (f.Funcs.length : Int) = _
      rw [M.s_l03Face_l1]; simp)
  rw [all_and, all_range nameOk f.Resources []] at l0
  rw [all_and, all_range (fnOk f.Resources) f.Funcs SFunc.zero] at l1
  have hr1 : (List.range f.Resources.length).all (fun i => (i == 0) || Go.V.ltS (f.Resources.getD (i - 1) []) (f.Resources.getD i [])) = riseS f.Resources := rfl
  have hr2 : (List.range f.Funcs.length).all (fun i => (i == 0) || Go.V.ltS (f.Funcs.getD (i - 1) SFunc.zero).Name (f.Funcs.getD i SFunc.zero).Name) = riseS (f.Funcs.map SFunc.Name) := by
    unfold riseS; simp only [List.length_map, map_getD]
  rw [hr1] at l0
  rw [hr2] at l1
  unfold M.s_l03Face faceOk
  simp only [hn1, hn2, hv, l0, gt4, gt8, Option.getD_some, Option.isSome_some, Bool.true_or, Bool.and_true, Bool.true_and, cond_true]
  cases nameOk f.Package <;> cases nameOk f.Name <;> cases verOk f.Version <;> cases decide (f.Resources.length ≤ 4) <;> cases decide (f.Funcs.length ≤ 8) <;> try rfl
  cases f.Resources.all nameOk <;> cases riseS f.Resources <;> try rfl
  simp only [Bool.not_true, Bool.or_self, cond_false, Bool.and_self, if_true, l1]
  cases f.Funcs.all (fnOk f.Resources) <;> cases riseS (f.Funcs.map SFunc.Name) <;> rfl

theorem contains_str (l : List (List UInt8)) (v : List UInt8) (hl : l.length ≤ 1048576) : M.slices_Contains_string_string l v = some (l.any fun y => v == y) := by
  have e := find_list (p := fun y => v == y) (F := M.slices_Index_string_string_l0 l v (l.length : Int)) (e := ()) (fun k => k) l (by omega) (fun g k hk => by
    rw [M.slices_Index_string_string_l0]
    simp only [getD_lt hk, Int.toNat_natCast, inB_nat, Int.ofNat_lt, hk, decide_true, cond_true, Bool.and_true, wrapk hk (by omega : l.length < 2 ^ 62)]
    ) (fun g => by rw [M.slices_Index_string_string_l0]; simp)
  unfold M.slices_Contains_string_string M.slices_Index_string_string
  rw [e, findIdx_any]
  cases l.findIdx? (fun y => v == y) <;> simp

theorem face_i (f : SFace) (h : f.sz ≤ 1048576) : M.i_FaceOk f = some (faceOk f) := by
  rw [SFace.sz_eq] at h
  have hrl : f.Resources.length ≤ 1048576 := Nat.le_trans (szL_len List.length f.Resources) (by omega)
  have hfl : f.Funcs.length ≤ 1048576 := Nat.le_trans (szL_len SFunc.sz f.Funcs) (by omega)
  have hn1 := nameOk_i f.Package (by omega)
  have hn2 := nameOk_i f.Name (by omega)
  have hv := version_i f.Version (by omega)
  have hinc := increasing_i f.Resources hrl
  have hc2 : M.slices_ContainsFunc_string_string_2 f.Resources = some (f.Resources.any fun s => !nameOk s) := by
    have e := find_list (p := fun s => !nameOk s) (F := M.slices_IndexFunc_string_string_2_l0 f.Resources (f.Resources.length : Int)) (e := ()) (fun k => k) f.Resources (by omega) (fun g k hk => by
      rw [M.slices_IndexFunc_string_string_2_l0]
      have hn : f.Resources[k].length ≤ 1048576 := by have := szL_mem List.length _ _ (List.getElem_mem hk); omega
      have hc : M.i_FaceOk_c1 f.Resources[k] = some (!nameOk f.Resources[k]) := by unfold M.i_FaceOk_c1; rw [nameOk_i _ hn]; rfl
      simp only [getD_lt hk, hc, Int.toNat_natCast, inB_nat, Int.ofNat_lt, hk, decide_true, cond_true, Bool.true_and, Bool.and_true, wrapk hk (by omega : f.Resources.length < 2 ^ 62), Option.getD_some, Option.isSome_some]) (fun g => by rw [M.slices_IndexFunc_string_string_2_l0]; simp)
    unfold M.slices_ContainsFunc_string_string_2 M.slices_IndexFunc_string_string_2
    rw [e, findIdx_any]
    cases f.Resources.findIdx? (fun s => !nameOk s) <;> simp
  have hc3 : ∀ l : List (List UInt8), l.length ≤ 8388608 → M.slices_ContainsFunc_string_string_3 l f = some (l.any fun n => !(f.Resources.any fun y => n == y)) := fun l hl => by
    have e := find_list (p := fun n => !(f.Resources.any fun y => n == y)) (F := M.slices_IndexFunc_string_string_3_l0 l f (l.length : Int)) (e := ()) (fun k => k) l (by omega) (fun g k hk => by
      rw [M.slices_IndexFunc_string_string_3_l0]
      have hc : M.i_FaceOk_c2 l[k] f = some (!(f.Resources.any fun y => l[k] == y)) := by unfold M.i_FaceOk_c2; rw [contains_str _ _ hrl]; rfl
      simp only [getD_lt hk, hc, Int.toNat_natCast, inB_nat, Int.ofNat_lt, hk, decide_true, cond_true, Bool.true_and, Bool.and_true, wrapk hk (by omega : l.length < 2 ^ 62), Option.getD_some, Option.isSome_some]) (fun g => by rw [M.slices_IndexFunc_string_string_3_l0]; simp)
    unfold M.slices_ContainsFunc_string_string_3 M.slices_IndexFunc_string_string_3
    rw [e, findIdx_any]
    cases l.findIdx? (fun n => !(f.Resources.any fun y => n == y)) <;> simp
  have hres : ∀ k (hk : k < f.Funcs.length), (fRes f.Funcs[k].Type_).length ≤ 8388608 := fun k hk => by
    have hm := szL_mem SFunc.sz _ _ (List.getElem_mem hk)
    have hsz := SFunc.sz_eq f.Funcs[k]
    have hsz2 := SFuncType.sz_eq f.Funcs[k].Type_
    unfold fRes
    rw [List.length_append]
    have h1 := tRes_len f.Funcs[k].Type_.Result
    have h2 := tParts_le f.Funcs[k].Type_.Result
    have h3 := fRes_bound (l := f.Funcs[k].Type_.Params) (by omega) f.Funcs[k].Type_.Params.length
    rw [List.take_length] at h3
    have h4 := szL_len SParam.sz f.Funcs[k].Type_.Params
    omega
  have key : ∀ g k, k ≤ f.Funcs.length → f.Funcs.length - k < g → M.i_FaceOk_l0 f.Funcs (f.Funcs.length : Int) f g (k : Int) ((f.Funcs.take k).map SFunc.Name) = some (if (f.Funcs.drop k).all (fnOk f.Resources) then .inr (f.Funcs.map SFunc.Name) else .inl false) := by
    intro g
    induction g with
    | zero => intro k h1 h2; omega
    | succ g ih =>
      intro k h1 h2
      rcases Nat.lt_or_ge k f.Funcs.length with hk | hk
      · rw [M.i_FaceOk_l0]
        have hm := szL_mem SFunc.sz _ _ (List.getElem_mem hk)
        have hsz := SFunc.sz_eq f.Funcs[k]
        have hnm := nameOk_i f.Funcs[k].Name (by omega)
        have hfn := funcOk_i f.Funcs[k].Type_ (by omega)
        have hfr := funcRes_i f.Funcs[k].Type_ (by omega)
        have hcc := hc3 _ (hres k hk)
        have hd : decide ((((f.Funcs.take k).map SFunc.Name).length + ([f.Funcs[k].Name] : List (List UInt8)).length) ≤ 1073741824) = true := by
          simp only [decide_eq_true_eq, List.length_map, List.length_take, List.length_cons, List.length_nil]; omega
        have ht : (f.Funcs.take k).map SFunc.Name ++ [f.Funcs[k].Name] = (f.Funcs.take (k + 1)).map SFunc.Name := by
          rw [List.take_add_one, List.map_append, List.getElem?_eq_getElem hk]; rfl
        simp only [SFuncType.re_eq, getD_lt hk, hnm, hfn, hfr, hcc, Int.toNat_natCast, inB_nat, Int.ofNat_lt, hk, decide_true, cond_true, Bool.true_and, Bool.and_true, wrapk hk (big_of hfl), Option.getD_some, Option.isSome_some, Bool.true_or, hd, ht]
        rw [ih (k + 1) (by omega) (by omega), all_drop _ hk]
        unfold fnOk
        have hna : ((fRes f.Funcs[k].Type_).any fun n => !(f.Resources.any fun y => n == y)) = !((fRes f.Funcs[k].Type_).all fun n => f.Resources.any fun y => n == y) := by rw [List.not_all_eq_any_not]
        rw [hna]
        cases nameOk f.Funcs[k].Name <;> cases fOk f.Funcs[k].Type_ <;> cases ((fRes f.Funcs[k].Type_).all fun n => f.Resources.any fun y => n == y) <;> simp
      · have : k = f.Funcs.length := by omega
        subst this
        rw [M.i_FaceOk_l0]; simp
  have e := key bigN 0 (Nat.zero_le _) (by have := bigN_le; omega)
  have e' : M.i_FaceOk_l0 f.Funcs (f.Funcs.length : Int) f bigN 0 [] = _ := e
  rw [List.drop_zero] at e'
  have hinc2 := increasing_i (f.Funcs.map SFunc.Name) (by rw [List.length_map]; exact hfl)
  have hna : (f.Resources.any fun s => !nameOk s) = !f.Resources.all nameOk := by rw [List.not_all_eq_any_not]
  unfold M.i_FaceOk faceOk
  simp only [hn1, hn2, hv, hinc, hc2, hna, e', gt4, gt8, Option.getD_some, Option.isSome_some, Bool.true_or, Bool.and_true, Bool.true_and, cond_true]
  cases nameOk f.Package <;> cases nameOk f.Name <;> cases verOk f.Version <;> cases decide (f.Resources.length ≤ 4) <;> cases decide (f.Funcs.length ≤ 8) <;> try rfl
  cases f.Resources.all nameOk <;> cases riseS f.Resources <;> try rfl
  simp only [Bool.not_true, Bool.or_self, cond_false, Bool.and_self, Bool.true_and]
  cases f.Funcs.all (fnOk f.Resources)
  · rfl
  · simp only [if_true, hinc2, Option.getD_some, Option.isSome_some, cond_true, Bool.true_and]

theorem fname_i (f : SFace) (h : f.sz ≤ 1048576) : M.i_faceName f = some ((f.Package ++ [47]) ++ f.Name) := by
  rw [SFace.sz_eq] at h
  unfold M.i_faceName
  rw [catB_small (by simp; omega), catB_small (by simp; omega)]; rfl
theorem fname_s (f : SFace) (h : f.sz ≤ 1048576) : M.s_l23Name f = some ((f.Package ++ [47]) ++ f.Name) := by
  rw [SFace.sz_eq] at h
  unfold M.s_l23Name
  rw [catB_small (by simp; omega), catB_small (by simp; omega)]; rfl

theorem law_FaceName (x : SFace) (hx : x.Ok) : M.l_FnExactFaceName x = some true := by
  unfold M.l_FnExactFaceName
  have hsz := sz_Face x 1048576 hx (by omega) (by omega)
  rw [hsz]
  by_cases h : x.sz ≤ 1048576
  · have h' : ((x.sz : Nat) : Int) ≤ 1048576 := by omega
    have hn : decide ((1048576 : Int) - ((x.sz : Nat) : Int) < 0) = false := by rw [decide_eq_false_iff_not]; omega
    have hi : M.i_FaceName x = M.s_FaceName x ∧ ∃ s, M.s_FaceName x = some s := by
      unfold M.i_FaceName M.s_FaceName
      rw [face_i x h, face_s x h, fname_i x h, fname_s x h]
      cases faceOk x
      · exact ⟨rfl, _, rfl⟩
      · exact ⟨rfl, _, rfl⟩
    obtain ⟨e1, s, e2⟩ := hi
    have e3 := eq_Face x h
    simp only [if_pos h', Option.getD_some, hn, to_Face x h, e1, e2, e3, beq_self_eq_true, Option.isSome_some, Bool.and_true, Bool.not_true, cond_false, cond_true]
  · have h' : ¬ ((x.sz : Nat) : Int) ≤ 1048576 := by omega
    simp [h']
end M
