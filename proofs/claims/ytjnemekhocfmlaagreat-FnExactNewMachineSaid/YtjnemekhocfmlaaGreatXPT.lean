/-
  THE BLOCKS of a core's code, matched, in plain Lean.
-/
import Derived.Test.YtjnemekhocfmlaaGreatXPplA
import Derived.Test.YtjnemekhocfmlaaGreatXPQM
import Derived.Test.YtjnemekhocfmlaaGreatXPQH
import Derived.Test.YtjnemekhocfmlaaGreatXPpl3
set_option linter.unusedVariables false
namespace M
open Go.V (inB slB bigN bigN_le)

def opnB (op : Int) : Bool := (op == 24 || op == 25) || op == 26
abbrev BS := List SCodeBlock × List Int
def topI (s : BS) : Nat := (s.2.getD (s.2.length - 1) 0).toNat
def topB (s : BS) : SCodeBlock := s.1.getD (topI s) SCodeBlock.zero
def opAt (c : List SIns) (at_ : Int) : Int := (c.getD at_.toNat SIns.zero).Op
def bStep (e : Int) (c : List SIns) (k : Nat) (i : SIns) (s : BS) : Int ⊕ BS :=
  if opnB i.Op = true then
    if s.2.length = 6 then .inl 4 else .inr (s.1 ++ [SCodeBlock.mk (k : Int) (-1) e 0 (i.A == 1)], s.2 ++ [(s.1.length : Int)])
  else if i.Op = 27 then
    if s.2.length = 0 then .inl 5
    else if opAt c (topB s).At ≠ 26 ∨ 0 ≤ (topB s).Else then .inl 5
    else .inr (s.1.set (topI s) (SCodeBlock.mk (topB s).At (k : Int) (topB s).End (topB s).Height (topB s).Result), s.2)
  else if i.Op = 28 then
    if s.2.length = 0 then .inl 5
    else if (opAt c (topB s).At = 26 ∧ (topB s).Result = true) ∧ (topB s).Else < 0 then .inl 7
    else .inr (s.1.set (topI s) (SCodeBlock.mk (topB s).At (topB s).Else (k : Int) (topB s).Height (topB s).Result), s.2.take (s.2.length - 1))
  else .inr s
def bRun (e : Int) (c : List SIns) : Nat → Nat → BS → (Int × Int) ⊕ BS
  | 0, k, s => .inr s
  | n + 1, k, s => match bStep e c k (c.getD k SIns.zero) s with
    | .inl x => .inl ((k : Int), x)
    | .inr s' => bRun e c n (k + 1) s'

/-! ### what End is at first plays no part -/

def strip (b : SCodeBlock) : SCodeBlock := SCodeBlock.mk b.At b.Else 0 b.Height b.Result
def stripS (s : BS) : BS := (s.1.map strip, s.2)
def mapR {E A B : Type} (f : A → B) : E ⊕ A → E ⊕ B
  | .inl e => .inl e
  | .inr a => .inr (f a)
theorem topI_strip (s : BS) : topI (stripS s) = topI s := rfl
theorem topB_strip (s : BS) : topB (stripS s) = strip (topB s) := by
  unfold topB
  rw [topI_strip]
  simp only [stripS, List.getD_eq_getElem?_getD, List.getElem?_map]
  cases s.1[topI s]? <;> rfl
theorem bStep_strip (e e' : Int) (c : List SIns) (k : Nat) (i : SIns) (s : BS) : mapR stripS (bStep e c k i s) = mapR stripS (bStep e' c k i (stripS s)) := by
  have ht := topB_strip s
  unfold bStep
  rw [topI_strip, ht]
  have h2 : (stripS s).2 = s.2 := rfl
  have hl : (stripS s).1.length = s.1.length := by simp [stripS]
  rw [h2, hl]
  have ha : (strip (topB s)).At = (topB s).At := rfl
  have hb : (strip (topB s)).Else = (topB s).Else := rfl
  have hc : (strip (topB s)).Result = (topB s).Result := rfl
  have hd : (strip (topB s)).Height = (topB s).Height := rfl
  have he : (strip (topB s)).End = 0 := rfl
  rw [ha, hb, hc, hd, he]
  have hm : ∀ b : SCodeBlock, strip (strip b) = strip b := fun b => rfl
  have hmm : ∀ l : List SCodeBlock, (l.map strip).map strip = l.map strip := fun l => by rw [List.map_map]; rfl
  repeat' split
  all_goals first
    | rfl
    | (simp only [mapR, stripS, List.map_append, List.map_set, hmm, List.map_cons, List.map_nil]; try rfl)
theorem bRun_strip (e e' : Int) (c : List SIns) : ∀ (n k : Nat) (s s' : BS), stripS s = stripS s' → mapR stripS (bRun e c n k s) = mapR stripS (bRun e' c n k s')
  | 0, k, s, s', h => by simp only [bRun, mapR, h]
  | n + 1, k, s, s', h => by
    have h1 : mapR stripS (bStep e c k (c.getD k SIns.zero) s) = mapR stripS (bStep e' c k (c.getD k SIns.zero) s') := by
      rw [bStep_strip e e' c k _ s, h, ← bStep_strip e' e' c k _ s']
    simp only [bRun]
    cases hx : bStep e c k (c.getD k SIns.zero) s with
    | inl x =>
      cases hy : bStep e' c k (c.getD k SIns.zero) s' with
      | inl y => rw [hx, hy] at h1; injection h1 with h1; rw [h1]
      | inr y => rw [hx, hy] at h1; cases h1
    | inr x =>
      cases hy : bStep e' c k (c.getD k SIns.zero) s' with
      | inl y => rw [hx, hy] at h1; cases h1
      | inr y =>
        rw [hx, hy] at h1
        injection h1 with h1
        exact bRun_strip e e' c n (k + 1) x y h1

/-! ### where the blocks lie -/

def pr (b : SCodeBlock) : Int × Bool := (b.At, b.Result)
def prS (s : BS) : List (Int × Bool) := s.1.map pr
structure BInv (k : Nat) (s : BS) : Prop where
  lt : ∀ x ∈ prS s, 0 ≤ x.1 ∧ x.1 < k
  inc : (prS s).Pairwise fun a b => a.1 < b.1
  opn : ∀ x ∈ s.2, 0 ≤ x ∧ x < s.1.length
  six : s.2.length ≤ 6
  cnt : s.1.length ≤ k
theorem topI_lt {k : Nat} {s : BS} (h : BInv k s) (h0 : s.2.length ≠ 0) : topI s < s.1.length ∧ ((topI s : Nat) : Int) = s.2.getD (s.2.length - 1) 0 := by
  have hm : s.2.getD (s.2.length - 1) 0 ∈ s.2 := by rw [getD_lt (by omega)]; exact List.getElem_mem _
  have := h.opn _ hm
  unfold topI; omega
theorem set_pr (l : List SCodeBlock) (i : Nat) (b : SCodeBlock) (h : pr b = pr (l.getD i SCodeBlock.zero)) : (l.set i b).map pr = l.map pr := by
  rw [List.map_set, h]
  apply List.ext_getElem?
  intro j
  rw [List.getElem?_set]
  split
  · rename_i e; subst e
    split
    · rename_i hl
      rw [List.length_map] at hl
      rw [List.getElem?_map, getD_lt hl, List.getElem?_eq_getElem hl]; rfl
    · rename_i hl
      rw [List.getElem?_eq_none (by omega)]
  · rfl
theorem bStep_pr {e : Int} {c : List SIns} {k : Nat} {i : SIns} {s s' : BS} (h : bStep e c k i s = .inr s') :
    (opnB i.Op = true ∧ s.2.length ≠ 6 ∧ prS s' = prS s ++ [((k : Int), i.A == 1)] ∧ s'.2 = s.2 ++ [(s.1.length : Int)]) ∨
    (opnB i.Op = false ∧ prS s' = prS s ∧ ((i.Op = 27 ∧ s.2.length ≠ 0 ∧ s'.2 = s.2) ∨ (i.Op = 28 ∧ s.2.length ≠ 0 ∧ s'.2 = s.2.take (s.2.length - 1)) ∨ (i.Op ≠ 27 ∧ i.Op ≠ 28 ∧ s'.2 = s.2))) := by
  unfold bStep at h
  by_cases ho : opnB i.Op = true
  · rw [if_pos ho] at h
    by_cases h6 : s.2.length = 6
    · rw [if_pos h6] at h; cases h
    · rw [if_neg h6] at h
      injection h with h; subst h
      refine .inl ⟨ho, h6, ?_, rfl⟩
      simp only [prS, List.map_append, List.map_cons, List.map_nil]; rfl
  · rw [if_neg ho] at h
    have ho' : opnB i.Op = false := by simpa using ho
    refine .inr ⟨ho', ?_⟩
    by_cases h27 : i.Op = 27
    · rw [if_pos h27] at h
      by_cases h0 : s.2.length = 0
      · rw [if_pos h0] at h; cases h
      · rw [if_neg h0] at h
        by_cases hc : opAt c (topB s).At ≠ 26 ∨ 0 ≤ (topB s).Else
        · rw [if_pos hc] at h; cases h
        · rw [if_neg hc] at h
          injection h with h; subst h
          exact ⟨set_pr _ _ _ rfl, .inl ⟨h27, h0, rfl⟩⟩
    · rw [if_neg h27] at h
      by_cases h28 : i.Op = 28
      · rw [if_pos h28] at h
        by_cases h0 : s.2.length = 0
        · rw [if_pos h0] at h; cases h
        · rw [if_neg h0] at h
          by_cases hc : (opAt c (topB s).At = 26 ∧ (topB s).Result = true) ∧ (topB s).Else < 0
          · rw [if_pos hc] at h; cases h
          · rw [if_neg hc] at h
            injection h with h; subst h
            exact ⟨set_pr _ _ _ rfl, .inr (.inl ⟨h28, h0, rfl⟩)⟩
      · rw [if_neg h28] at h
        injection h with h; subst h
        exact ⟨rfl, .inr (.inr ⟨h27, h28, rfl⟩)⟩
theorem bStep_inv {e : Int} {c : List SIns} {k : Nat} {i : SIns} {s s' : BS} (hI : BInv k s) (h : bStep e c k i s = .inr s') : BInv (k + 1) s' := by
  have hlen : ∀ t : BS, (prS t).length = t.1.length := fun t => by simp [prS]
  rcases bStep_pr h with ⟨_, h6, hp, ho⟩ | ⟨_, hp, ho⟩
  · have hl : s'.1.length = s.1.length + 1 := by rw [← hlen s', hp, List.length_append, hlen s]; rfl
    refine ⟨?_, ?_, ?_, ?_, by have := hI.cnt; omega⟩
    · intro x hx
      rw [hp] at hx
      rcases List.mem_append.1 hx with hx | hx
      · have := hI.lt x hx; omega
      · simp only [List.mem_cons, List.not_mem_nil, or_false] at hx; subst hx; simp only; omega
    · rw [hp, List.pairwise_append]
      refine ⟨hI.inc, List.pairwise_singleton _ _, ?_⟩
      intro a ha b hb
      simp only [List.mem_cons, List.not_mem_nil, or_false] at hb; subst hb
      exact (hI.lt a ha).2
    · rw [ho]
      intro x hx
      rcases List.mem_append.1 hx with hx | hx
      · have := hI.opn x hx; omega
      · simp only [List.mem_cons, List.not_mem_nil, or_false] at hx; subst hx; omega
    · rw [ho, List.length_append, List.length_cons, List.length_nil]; have := hI.six; omega
  · have hl : s'.1.length = s.1.length := by rw [← hlen s', hp, hlen s]
    refine ⟨?_, by rw [hp]; exact hI.inc, ?_, ?_, by have := hI.cnt; omega⟩
    · rw [hp]; intro x hx; have := hI.lt x hx; omega
    · rw [hl]
      rcases ho with ⟨_, _, ho⟩ | ⟨_, _, ho⟩ | ⟨_, _, ho⟩ <;> rw [ho]
      · exact hI.opn
      · exact fun x hx => hI.opn x (List.mem_of_mem_take hx)
      · exact hI.opn
    · rcases ho with ⟨_, _, ho⟩ | ⟨_, _, ho⟩ | ⟨_, _, ho⟩ <;> rw [ho]
      · exact hI.six
      · rw [List.length_take]; have := hI.six; omega
      · exact hI.six
theorem bInv0 : BInv 0 ([], []) := ⟨fun x hx => by simp [prS] at hx, by simp [prS], fun x hx => by simp at hx, by simp, by simp⟩
theorem bRun_pre {e : Int} {c : List SIns} : ∀ (n k : Nat) (s B : BS), BInv k s → bRun e c n k s = .inr B → (∃ r, prS B = prS s ++ r) ∧ BInv (k + n) B
  | 0, k, s, B, hI, h => by
    simp only [bRun] at h
    injection h with h; subst h
    exact ⟨⟨[], by simp⟩, hI⟩
  | n + 1, k, s, B, hI, h => by
    simp only [bRun] at h
    cases hx : bStep e c k (c.getD k SIns.zero) s with
    | inl x => rw [hx] at h; cases h
    | inr s' =>
      rw [hx] at h
      obtain ⟨⟨r, hr⟩, hp⟩ := bRun_pre n (k + 1) s' B (bStep_inv hI hx) h
      refine ⟨?_, by rw [show k + (n + 1) = k + 1 + n by omega]; exact hp⟩
      rcases bStep_pr hx with ⟨_, _, hp', _⟩ | ⟨_, hp', _⟩
      · exact ⟨[((k : Int), (c.getD k SIns.zero).A == 1)] ++ r, by rw [hr, hp', List.append_assoc]⟩
      · exact ⟨r, by rw [hr, hp']⟩
theorem inc_find {L : List (Int × Bool)} (h : L.Pairwise fun a b => a.1 < b.1) {j : Nat} (hj : j < L.length) (p : Int × Bool → Bool) (hp : ∀ x, p x = (x.1 == (L[j]).1)) : L.findIdx? p = some j := by
  rw [List.findIdx?_eq_some_iff_getElem]
  refine ⟨hj, by rw [hp]; simp, ?_⟩
  intro i hi
  have := List.pairwise_iff_getElem.1 h i j (by omega) hj hi
  rw [hp]
  simp only [beq_iff_eq]
  omega
end M
/-
  THE CHECK of a core's code, in plain Lean.
-/
set_option linter.unusedVariables false
namespace M
open Go.V (inB slB bigN bigN_le)

def bitI (b : Bool) : Int := bif b then 1 else 0
theorem bitI_le (b : Bool) : 0 ≤ bitI b ∧ bitI b ≤ 1 := by cases b <;> decide
structure CSt where
  nxt : Int
  op : List Int
  ba : List Int
  h : Int
  kn : Bool
def baseP (s : CSt) : Int := if s.ba.length = 0 then 0 else s.ba.getD (s.ba.length - 1) 0
def topP (P : List (Int × Bool)) (s : CSt) : Int × Bool := P.getD (s.op.getD (s.op.length - 1) 0).toNat (0, false)
def thereP (m : SModule) (c : SCore) (i : SIns) (s : CSt) : Bool :=
  if i.Op = 2 ∨ i.Op = 3 ∨ i.Op = 4 then decide (i.A < c.Params + c.Locals)
  else if i.Op = 32 then decide (i.A < (m.Cores.length : Int))
  else if i.Op = 33 then decide (i.A < (m.Imports.length : Int))
  else if i.Op = 29 ∨ i.Op = 30 then decide (i.A ≤ (s.op.length : Int)) else true
def takeP (m : SModule) (i : SIns) : Int × Int :=
  if i.Op = 1 ∨ i.Op = 2 then (0, 1)
  else if i.Op = 3 ∨ i.Op = 5 ∨ i.Op = 26 ∨ i.Op = 30 then (1, 0)
  else if i.Op = 4 ∨ i.Op = 22 ∨ i.Op = 34 ∨ i.Op = 35 ∨ i.Op = 36 then (1, 1)
  else if i.Op = 23 then (3, 1)
  else if i.Op = 37 ∨ i.Op = 38 ∨ i.Op = 39 then (2, 0)
  else if i.Op = 32 then ((m.Cores.getD i.A.toNat SCore.zero).Params, bitI (m.Cores.getD i.A.toNat SCore.zero).Result)
  else if i.Op = 33 then ((m.Imports.getD i.A.toNat SImport.zero).Params, bitI (m.Imports.getD i.A.toNat SImport.zero).Result)
  else if i.Op = 24 ∨ i.Op = 25 ∨ i.Op = 29 ∨ i.Op = 31 ∨ i.Op = 40 then (0, 0) else (2, 1)
def needP (c : SCore) (P : List (Int × Bool)) (i : SIns) (s : CSt) : Int :=
  if i.Op = 31 then bitI c.Result
  else if i.Op = 29 ∨ i.Op = 30 then
    if (s.op.length : Int) - 1 - i.A < 0 then bitI c.Result
    else bitI ((P.getD (s.op.getD ((s.op.length : Int) - 1 - i.A).toNat 0).toNat (0, false)).2 && !(opAt c.Code (P.getD (s.op.getD ((s.op.length : Int) - 1 - i.A).toNat 0).toNat (0, false)).1 == 25))
  else 0
def cStep (m : SModule) (c : SCore) (P : List (Int × Bool)) (i : SIns) (s : CSt) : Int ⊕ CSt :=
  if i.Op = 27 ∨ i.Op = 28 then
    if s.kn = true ∧ s.h ≠ baseP s + bitI (topP P s).2 then .inl 7
    else if i.Op = 27 then .inr { s with kn := true, h := baseP s }
    else if 24 < baseP s + bitI (topP P s).2 then .inl 4
    else .inr { s with kn := true, h := baseP s + bitI (topP P s).2, op := s.op.take (s.op.length - 1), ba := s.ba.take (s.ba.length - 1) }
  else if s.kn = false then .inl 5
  else if thereP m c i s = false then .inl 2
  else if s.h - (takeP m i).1 < baseP s then .inl 7
  else if 24 < s.h - (takeP m i).1 + (takeP m i).2 then .inl 4
  else if s.h - (takeP m i).1 + (takeP m i).2 - needP c P i s < baseP s then .inl 7
  else .inr {
    nxt := if opnB i.Op = true then s.nxt + 1 else s.nxt
    op := if opnB i.Op = true then s.op ++ [s.nxt] else s.op
    ba := if opnB i.Op = true then s.ba ++ [s.h - (takeP m i).1 + (takeP m i).2] else s.ba
    h := s.h - (takeP m i).1 + (takeP m i).2
    kn := !(i.Op == 29 || i.Op == 31 || i.Op == 40) }
def placeP (s : CSt) : SCodePlace := if s.kn = true then SCodePlace.mk true s.h s.op else SCodePlace.mk false 0 []
def cRun (m : SModule) (c : SCore) (P : List (Int × Bool)) : Nat → Nat → CSt → List SCodePlace → (Int × Int) ⊕ (CSt × List SCodePlace)
  | 0, k, s, a => .inr (s, a)
  | n + 1, k, s, a => match cStep m c P (c.Code.getD k SIns.zero) s with
    | .inl x => .inl ((k : Int), x)
    | .inr s' => cRun m c P n (k + 1) s' (a ++ [placeP s])
structure MOk (m : SModule) : Prop where
  cores : m.Cores.length ≤ 8
  imports : m.Imports.length ≤ 12
  imp : ∀ x ∈ m.Imports, 0 ≤ x.Params ∧ x.Params ≤ 8
  core : ∀ x ∈ m.Cores, (0 ≤ x.Params ∧ x.Params ≤ 8) ∧ (0 ≤ x.Locals ∧ x.Locals ≤ 8) ∧ x.Code.length ≤ 120
  ins : ∀ x ∈ m.Cores, ∀ i ∈ x.Code, (1 ≤ i.Op ∧ i.Op ≤ 40) ∧ (i.Op ≠ 1 → 0 ≤ i.A ∧ i.A ≤ 16777216)
structure CInv (B : BS) (s : CSt) : Prop where
  op : s.op = B.2
  nxt : s.nxt = (B.1.length : Int)
  len : s.ba.length = s.op.length
  ba : ∀ x ∈ s.ba, 0 ≤ x ∧ x ≤ 24
  h : 0 ≤ s.h ∧ s.h ≤ 24
theorem baseP_le {B : BS} {s : CSt} (h : CInv B s) : 0 ≤ baseP s ∧ baseP s ≤ 24 := by
  unfold baseP
  by_cases h0 : s.ba.length = 0
  · rw [if_pos h0]; omega
  · rw [if_neg h0, getD_lt (by omega)]
    exact h.ba _ (List.getElem_mem _)
theorem takeP_le {m : SModule} (hm : MOk m) (i : SIns) : (0 ≤ (takeP m i).1 ∧ (takeP m i).1 ≤ 8) ∧ (0 ≤ (takeP m i).2 ∧ (takeP m i).2 ≤ 1) := by
  have hc : 0 ≤ (m.Cores.getD i.A.toNat SCore.zero).Params ∧ (m.Cores.getD i.A.toNat SCore.zero).Params ≤ 8 := by
    rw [List.getD_eq_getElem?_getD]
    cases h : m.Cores[i.A.toNat]? with
    | none => simp [SCore.zero]
    | some x => exact (hm.core x (List.mem_of_getElem? h)).1
  have hi : 0 ≤ (m.Imports.getD i.A.toNat SImport.zero).Params ∧ (m.Imports.getD i.A.toNat SImport.zero).Params ≤ 8 := by
    rw [List.getD_eq_getElem?_getD]
    cases h : m.Imports[i.A.toNat]? with
    | none => simp [SImport.zero]
    | some x => exact hm.imp x (List.mem_of_getElem? h)
  have b1 := bitI_le (m.Cores.getD i.A.toNat SCore.zero).Result
  have b2 := bitI_le (m.Imports.getD i.A.toNat SImport.zero).Result
  unfold takeP
  repeat' split
  all_goals simp only
  all_goals omega
def nextP (m : SModule) (i : SIns) (s : CSt) : CSt := {
    nxt := if opnB i.Op = true then s.nxt + 1 else s.nxt
    op := if opnB i.Op = true then s.op ++ [s.nxt] else s.op
    ba := if opnB i.Op = true then s.ba ++ [s.h - (takeP m i).1 + (takeP m i).2] else s.ba
    h := s.h - (takeP m i).1 + (takeP m i).2
    kn := !(i.Op == 29 || i.Op == 31 || i.Op == 40) }
theorem cStep_next {m : SModule} {c : SCore} {P : List (Int × Bool)} {i : SIns} {s s' : CSt} (hn : ¬ (i.Op = 27 ∨ i.Op = 28)) (hc : cStep m c P i s = .inr s') :
    (s.kn = true ∧ thereP m c i s = true ∧ baseP s ≤ s.h - (takeP m i).1 ∧ s.h - (takeP m i).1 + (takeP m i).2 ≤ 24) ∧ s' = nextP m i s := by
  unfold cStep at hc
  rw [if_neg hn] at hc
  by_cases q1 : s.kn = false
  · rw [if_pos q1] at hc; cases hc
  rw [if_neg q1] at hc
  by_cases q2 : thereP m c i s = false
  · rw [if_pos q2] at hc; cases hc
  rw [if_neg q2] at hc
  by_cases q3 : s.h - (takeP m i).1 < baseP s
  · rw [if_pos q3] at hc; cases hc
  rw [if_neg q3] at hc
  by_cases q4 : 24 < s.h - (takeP m i).1 + (takeP m i).2
  · rw [if_pos q4] at hc; cases hc
  rw [if_neg q4] at hc
  by_cases q5 : s.h - (takeP m i).1 + (takeP m i).2 - needP c P i s < baseP s
  · rw [if_pos q5] at hc; cases hc
  rw [if_neg q5] at hc
  injection hc with hc
  exact ⟨⟨by simpa using q1, by simpa using q2, by omega, by omega⟩, hc.symm⟩
theorem cStep_inv {m : SModule} {c : SCore} {P : List (Int × Bool)} {i : SIns} {e : Int} {code : List SIns} {k : Nat} {B B' : BS} {s s' : CSt} (hm : MOk m) (hI : CInv B s) (hb : bStep e code k i B = .inr B') (hc : cStep m c P i s = .inr s') : CInv B' s' := by
  have hbl := baseP_le hI
  have htk := takeP_le hm i
  have hbit := bitI_le (topP P s).2
  have hlen : ∀ t : BS, (prS t).length = t.1.length := fun t => by simp [prS]
  rcases bStep_pr hb with ⟨ho, h6, hp, hop⟩ | ⟨ho, hp, hop⟩
  · have hn : ¬ (i.Op = 27 ∨ i.Op = 28) := by
      unfold opnB at ho
      simp only [Bool.or_eq_true, beq_iff_eq] at ho; omega
    have hl : B'.1.length = B.1.length + 1 := by rw [← hlen B', hp, List.length_append, hlen B]; rfl
    obtain ⟨⟨q1, q2, q3, q4⟩, rfl⟩ := cStep_next hn hc
    unfold nextP
    refine ⟨?_, ?_, ?_, ?_, ?_⟩
    · rw [hop, ← hI.op, ← hI.nxt]; simp only [ho, if_true]
    · simp only [ho, if_true, hI.nxt]; omega
    · simp only [ho, if_true, List.length_append, hI.len, List.length_cons, List.length_nil]
    · simp only [ho, if_true]
      intro x hx
      rcases List.mem_append.1 hx with hx | hx
      · exact hI.ba x hx
      · simp only [List.mem_cons, List.not_mem_nil, or_false] at hx; subst hx; omega
    · simp only; omega
  · have hl : B'.1.length = B.1.length := by rw [← hlen B', hp, hlen B]
    by_cases hn : i.Op = 27 ∨ i.Op = 28
    · unfold cStep at hc
      rw [if_pos hn] at hc
      split at hc
      · cases hc
      · split at hc
        · rename_i q1 q2
          injection hc with hc
          subst hc
          have h2 : B'.2 = B.2 := by
            rcases hop with ⟨_, _, h⟩ | ⟨h, _, _⟩ | ⟨h, _, _⟩
            · exact h
            · omega
            · omega
          exact ⟨by rw [h2]; exact hI.op, by rw [hl]; exact hI.nxt, hI.len, hI.ba, hbl⟩
        · split at hc
          · cases hc
          · rename_i q1 q2 q3
            injection hc with hc
            subst hc
            have h2 : B'.2 = B.2.take (B.2.length - 1) := by
              rcases hop with ⟨h, _, _⟩ | ⟨_, _, h⟩ | ⟨_, h, _⟩
              · omega
              · exact h
              · omega
            refine ⟨by rw [h2, ← hI.op], by rw [hl]; exact hI.nxt, ?_, ?_, ?_⟩
            · simp only [List.length_take, hI.len]
            · simp only; exact fun x hx => hI.ba x (List.mem_of_mem_take hx)
            · simp only; omega
    · have h2 : B'.2 = B.2 := by
        rcases hop with ⟨h, _, _⟩ | ⟨h, _, _⟩ | ⟨_, _, h⟩
        · omega
        · omega
        · exact h
      obtain ⟨⟨q1, q2, q3, q4⟩, rfl⟩ := cStep_next hn hc
      unfold nextP
      have hof : ¬ (opnB i.Op = true) := by rw [ho]; simp
      refine ⟨?_, ?_, ?_, ?_, ?_⟩
      · rw [h2]; simp only [ho, if_false, Bool.false_eq_true]; exact hI.op
      · simp only [ho, if_false, Bool.false_eq_true, hl]; exact hI.nxt
      · simp only [ho, if_false, Bool.false_eq_true, hI.len]
      · simp only [ho, if_false, Bool.false_eq_true]; exact hI.ba
      · simp only; omega
end M
/-
  THE BLOCKS of a core, as the spec finds them.
-/
set_option linter.unusedVariables false
set_option linter.unusedSimpArgs false
namespace M
open Go.V (inB slB bigN bigN_le)

theorem topB_at {k : Nat} {s : BS} (h : BInv k s) (h0 : s.2.length ≠ 0) : 0 ≤ (topB s).At ∧ (topB s).At < k := by
  have h1 := (topI_lt h h0).1
  have hm : pr (topB s) ∈ prS s := by
    unfold topB prS
    rw [getD_lt h1]
    exact List.mem_map.2 ⟨_, List.getElem_mem h1, rfl⟩
  exact h.lt _ hm
theorem wrap_len {n : Nat} (h0 : n ≠ 0) (h : n ≤ 6) : Go.IntKind.wrap .i64 ((n : Int) - 1) = ((n - 1 : Nat) : Int) := by rw [wrap_i64 (by omega) (by omega)]; omega
theorem inB_int {x : Int} {n : Nat} (h : 0 ≤ x ∧ x < n) : inB x n = true := by
  obtain ⟨a, rfl⟩ := Int.eq_ofNat_of_zero_le h.1
  rw [inB_nat, decide_eq_true_eq]; omega

theorem blocks_loop_s (c : SCore) (hn : c.Code.length ≤ 120) : ∀ (f k : Nat) (s : BS), k ≤ c.Code.length → c.Code.length - k < f → BInv k s →
    M.s_l16Blocks_l0 c f (k : Int) s.1 s.2 = some (match bRun (-1) c.Code (c.Code.length - k) k s with
      | .inl p => .inl (p.1, p.2, [])
      | .inr s' => .inr (c, s'.1, s'.2))
  | 0, k, s, h1, h2, _ => by omega
  | f + 1, k, s, h1, h2, hI => by
    rw [M.s_l16Blocks_l0]
    rcases Nat.lt_or_ge k c.Code.length with hk | hk
    · obtain ⟨r, hr⟩ : ∃ r, c.Code.length - k = r + 1 := ⟨c.Code.length - k - 1, by omega⟩
      have hr' : c.Code.length - (k + 1) = r := by omega
      have ih := fun s' h => blocks_loop_s c hn f (k + 1) s' (by omega) (by omega) h
      rw [hr'] at ih
      rw [hr]
      simp only [bRun]
      have hinv := fun s' h => bStep_inv (e := -1) (c := c.Code) (i := c.Code.getD k SIns.zero) (s' := s') hI h
      have hw : Go.IntKind.wrap .i64 ((k : Int) + 1) = ((k + 1 : Nat) : Int) := wrapk hk (by omega)
      have h6 := hI.six
      have hcnt := hI.cnt
      simp only [Int.toNat_natCast, inB_nat, Int.ofNat_lt, hk, decide_true, cond_true, Bool.and_true, hw]
      generalize hi : c.Code.getD k SIns.zero = i at hinv ⊢
      rw [show (i.Op == 24 || i.Op == 25 || i.Op == 26) = opnB i.Op from rfl]
      by_cases ho : opnB i.Op = true
      · rw [ho, cond_true]
        by_cases hl : s.2.length = 6
        · have hb : bStep (-1) c.Code k i s = .inl 4 := by unfold bStep; rw [if_pos ho, if_pos hl]
          rw [hb, hl]; rfl
        · have hb : bStep (-1) c.Code k i s = .inr (s.1 ++ [SCodeBlock.mk (k : Int) (-1) (-1) 0 (i.A == 1)], s.2 ++ [(s.1.length : Int)]) := by unfold bStep; rw [if_pos ho, if_neg hl]
          have q : (((s.2.length : Nat) : Int) == 6) = false := by rw [beq_eq_false_iff_ne]; omega
          have d1 : decide (s.1.length + 1 ≤ 1073741824) = true := by rw [decide_eq_true_eq]; omega
          have d2 : decide (s.2.length + 1 ≤ 1073741824) = true := by rw [decide_eq_true_eq]; omega
          have := ih _ (hinv _ hb)
          simp only [q, cond_false, List.length_cons, List.length_nil, Nat.zero_add, d1, d2, Bool.and_self, cond_true]
          rw [hb]
          exact this
      · have ho' : opnB i.Op = false := by simpa using ho
        rw [ho', cond_false]
        by_cases h27 : i.Op = 27
        · have b27 : (i.Op == 27) = true := by rw [h27]; rfl
          rw [b27, cond_true]
          by_cases h0 : s.2.length = 0
          · have hb : bStep (-1) c.Code k i s = .inl 5 := by unfold bStep; rw [if_neg ho, if_pos h27, if_pos h0]
            rw [hb]
            simp [h0]
          · have ht := topI_lt hI h0
            have hat := topB_at hI h0
            have q : (((s.2.length : Nat) : Int) == 0) = false := by rw [beq_eq_false_iff_ne]; omega
            have e1 := ht.2.symm
            have hA : inB (topB s).At c.Code.length = true := inB_int ⟨hat.1, by omega⟩
            have hS : s.2.length - 1 < s.2.length := by omega
            simp only [q, Bool.false_or, wrap_len h0 h6, Int.toNat_natCast, e1, inB_nat, ht.1, hS, decide_true]
            rw [show List.getD s.1 (topI s) SCodeBlock.zero = topB s from rfl, show (List.getD c.Code (Int.toNat (topB s).At) SIns.zero).Op = opAt c.Code (topB s).At from rfl, hA]
            by_cases hc : opAt c.Code (topB s).At ≠ 26 ∨ 0 ≤ (topB s).Else
            · have hb : bStep (-1) c.Code k i s = .inl 5 := by unfold bStep; rw [if_neg ho, if_pos h27, if_neg h0, if_pos hc]
              have hq : ((opAt c.Code (topB s).At != 26) || decide (0 ≤ (topB s).Else)) = true := by rw [Bool.or_eq_true, bne_iff_ne, decide_eq_true_eq]; exact hc
              rw [hb, hq]; simp
            · have hb : bStep (-1) c.Code k i s = .inr (s.1.set (topI s) (SCodeBlock.mk (topB s).At (k : Int) (topB s).End (topB s).Height (topB s).Result), s.2) := by unfold bStep; rw [if_neg ho, if_pos h27, if_neg h0, if_neg hc]
              have hq : ((opAt c.Code (topB s).At != 26) || decide (0 ≤ (topB s).Else)) = false := by
                rw [Bool.eq_false_iff, ne_eq, Bool.or_eq_true, bne_iff_ne, decide_eq_true_eq]; exact hc
              have := ih _ (hinv _ hb)
              rw [hb, hq]
              simp only [cond_false, Bool.true_or, Bool.and_self, cond_true]
              exact this
        · have b27 : (i.Op == 27) = false := by rw [beq_eq_false_iff_ne]; exact h27
          rw [b27, cond_false]
          by_cases h28 : i.Op = 28
          · have b28 : (i.Op == 28) = true := by rw [h28]; rfl
            rw [b28, cond_true]
            by_cases h0 : s.2.length = 0
            · have hb : bStep (-1) c.Code k i s = .inl 5 := by unfold bStep; rw [if_neg ho, if_neg h27, if_pos h28, if_pos h0]
              rw [hb, h0]; rfl
            · have ht := topI_lt hI h0
              have hat := topB_at hI h0
              have q : (((s.2.length : Nat) : Int) == 0) = false := by rw [beq_eq_false_iff_ne]; omega
              have e1 := ht.2.symm
              have hA : inB (topB s).At c.Code.length = true := inB_int ⟨hat.1, by omega⟩
              have hS : s.2.length - 1 < s.2.length := by omega
              have hsl : slB (0 : Int) ((s.2.length - 1 : Nat) : Int) s.2.length = true := by unfold slB; simp
              simp only [q, cond_false, wrap_len h0 h6, Int.toNat_natCast, e1, inB_nat, ht.1, hS, decide_true, hsl]
              rw [show List.getD s.1 (topI s) SCodeBlock.zero = topB s from rfl, show (List.getD c.Code (Int.toNat (topB s).At) SIns.zero).Op = opAt c.Code (topB s).At from rfl, hA]
              by_cases hc : (opAt c.Code (topB s).At = 26 ∧ (topB s).Result = true) ∧ (topB s).Else < 0
              · have hb : bStep (-1) c.Code k i s = .inl 7 := by unfold bStep; rw [if_neg ho, if_neg h27, if_pos h28, if_neg h0, if_pos hc]
                have hq : (((opAt c.Code (topB s).At == 26) && (topB s).Result) && decide ((topB s).Else < 0)) = true := by rw [Bool.and_eq_true, Bool.and_eq_true, beq_iff_eq, decide_eq_true_eq]; exact hc
                rw [hb, hq]; rfl
              · have hb : bStep (-1) c.Code k i s = .inr (s.1.set (topI s) (SCodeBlock.mk (topB s).At (topB s).Else (k : Int) (topB s).Height (topB s).Result), s.2.take (s.2.length - 1)) := by unfold bStep; rw [if_neg ho, if_neg h27, if_pos h28, if_neg h0, if_neg hc]
                have hq : (((opAt c.Code (topB s).At == 26) && (topB s).Result) && decide ((topB s).Else < 0)) = false := by rw [Bool.eq_false_iff, ne_eq, Bool.and_eq_true, Bool.and_eq_true, beq_iff_eq, decide_eq_true_eq]; exact hc
                have := ih _ (hinv _ hb)
                rw [hb, hq]
                simp only [cond_false, Bool.and_self, cond_true]
                exact this
          · have b28 : (i.Op == 28) = false := by rw [beq_eq_false_iff_ne]; exact h28
            have hb : bStep (-1) c.Code k i s = .inr s := by unfold bStep; rw [if_neg ho, if_neg h27, if_neg h28]
            have := ih _ (hinv _ hb)
            rw [b28, cond_false, hb]
            exact this
    · have : k = c.Code.length := by omega
      subst this
      simp [bRun]
def blocksP (e : Int) (c : SCore) : (Int × Int) ⊕ List SCodeBlock :=
  match bRun e c.Code c.Code.length 0 ([], []) with
  | .inl p => .inl p
  | .inr s => if s.2.length = 0 then .inr s.1 else .inl ((c.Code.length : Int), 5)
theorem blocks_s (c : SCore) (hn : c.Code.length ≤ 120) : M.s_l16Blocks c = some (match blocksP (-1) c with
    | .inl p => (p.1, p.2, [])
    | .inr b => (0, 0, b)) := by
  unfold M.s_l16Blocks blocksP
  have e := blocks_loop_s c hn bigN 0 ([], []) (Nat.zero_le _) (by have := bigN_le; omega) bInv0
  have e' : M.s_l16Blocks_l0 c bigN 0 [] [] = _ := e
  rw [e', Nat.sub_zero]
  cases h : bRun (-1) c.Code c.Code.length 0 ([], []) with
  | inl p => rfl
  | inr s =>
    simp only
    by_cases h0 : s.2.length = 0
    · rw [if_pos h0, h0]; rfl
    · rw [if_neg h0]
      have : decide ((0 : Int) < ((s.2.length : Nat) : Int)) = true := by rw [decide_eq_true_eq]; omega
      rw [this]; rfl
end M
/-
  THE SMALL QUESTIONS of the check, as both ask them.
-/
set_option linter.unusedVariables false
set_option linter.unusedSimpArgs false
namespace M
open Go.V (inB slB bigN bigN_le)

theorem one_s (b : Bool) : M.s_l16One b = some (bitI b) := by cases b <;> rfl
theorem bit_i (b : Bool) : M.i_bit b = some (bitI b) := by cases b <;> rfl
theorem bifs {b c : Bool} : (bif b then b else c) = (b || c) := by cases b <;> rfl

theorem ops40 {K : Int} (h : 1 ≤ K ∧ K ≤ 40) : K = 1 ∨ K = 2 ∨ K = 3 ∨ K = 4 ∨ K = 5 ∨ K = 6 ∨ K = 7 ∨ K = 8 ∨ K = 9 ∨ K = 10 ∨ K = 11 ∨ K = 12 ∨ K = 13 ∨ K = 14 ∨ K = 15 ∨ K = 16 ∨ K = 17 ∨ K = 18 ∨ K = 19 ∨ K = 20 ∨ K = 21 ∨ K = 22 ∨ K = 23 ∨ K = 24 ∨ K = 25 ∨ K = 26 ∨ K = 27 ∨ K = 28 ∨ K = 29 ∨ K = 30 ∨ K = 31 ∨ K = 32 ∨ K = 33 ∨ K = 34 ∨ K = 35 ∨ K = 36 ∨ K = 37 ∨ K = 38 ∨ K = 39 ∨ K = 40 := by omega

theorem there_s (m : SModule) (c : SCore) (i : SIns) (s : CSt) (h1 : 0 ≤ c.Params ∧ c.Params ≤ 8) (h2 : 0 ≤ c.Locals ∧ c.Locals ≤ 8) (hi : 1 ≤ i.Op ∧ i.Op ≤ 40) : M.s_l16There m c i (s.op.length : Int) = some (thereP m c i s) := by
  obtain ⟨K, A⟩ := i
  have hw : Go.IntKind.wrap .i64 (c.Params + c.Locals) = c.Params + c.Locals := wrap_i64 (by omega) (by omega)
  unfold M.s_l16There
  rw [hw]
  simp only at hi
  rcases ops40 hi with rfl|rfl|rfl|rfl|rfl|rfl|rfl|rfl|rfl|rfl|rfl|rfl|rfl|rfl|rfl|rfl|rfl|rfl|rfl|rfl|rfl|rfl|rfl|rfl|rfl|rfl|rfl|rfl|rfl|rfl|rfl|rfl|rfl|rfl|rfl|rfl|rfl|rfl|rfl|rfl <;> rfl
theorem exists_i (m : SModule) (c : SCore) (bl : List SCodeBlock) (i : SIns) (s : CSt) (h1 : 0 ≤ c.Params ∧ c.Params ≤ 8) (h2 : 0 ≤ c.Locals ∧ c.Locals ≤ 8) (hi : 1 ≤ i.Op ∧ i.Op ≤ 40) :
    M.i_checker_exists (M.Schecker.mk m c bl s.nxt s.op s.ba s.h s.kn) i = some (thereP m c i s) := by
  obtain ⟨K, A⟩ := i
  have hw : Go.IntKind.wrap .i64 (c.Params + c.Locals) = c.Params + c.Locals := wrap_i64 (by omega) (by omega)
  unfold M.i_checker_exists
  simp only [hw]
  simp only at hi
  rcases ops40 hi with rfl|rfl|rfl|rfl|rfl|rfl|rfl|rfl|rfl|rfl|rfl|rfl|rfl|rfl|rfl|rfl|rfl|rfl|rfl|rfl|rfl|rfl|rfl|rfl|rfl|rfl|rfl|rfl|rfl|rfl|rfl|rfl|rfl|rfl|rfl|rfl|rfl|rfl|rfl|rfl <;> rfl

theorem take_s (m : SModule) (c : SCore) (i : SIns) (s : CSt) (hi : 1 ≤ i.Op ∧ i.Op ≤ 40) (hA : i.Op ≠ 1 → 0 ≤ i.A) (hn : i.Op ≠ 27 ∧ i.Op ≠ 28) (ht : thereP m c i s = true) : M.s_l16Take m i = some (takeP m i) := by
  obtain ⟨K, A⟩ := i
  simp only at hi hA hn
  unfold M.s_l16Take
  simp only [one_s]
  rcases ops40 hi with rfl|rfl|rfl|rfl|rfl|rfl|rfl|rfl|rfl|rfl|rfl|rfl|rfl|rfl|rfl|rfl|rfl|rfl|rfl|rfl|rfl|rfl|rfl|rfl|rfl|rfl|rfl|rfl|rfl|rfl|rfl|h32|h33|rfl|rfl|rfl|rfl|rfl|rfl|rfl
  case inr.inr.inr.inr.inr.inr.inr.inr.inr.inr.inr.inr.inr.inr.inr.inr.inr.inr.inr.inr.inr.inr.inr.inr.inr.inr.inr.inr.inr.inr.inr.inl =>
    subst h32
    have hl : A < (m.Cores.length : Int) := by
      have : thereP m c ⟨32, A⟩ s = decide (A < (m.Cores.length : Int)) := rfl
      rw [this, decide_eq_true_eq] at ht; exact ht
    have hb : inB A m.Cores.length = true := inB_int ⟨hA (by omega), hl⟩
    simp only [hb, Option.isSome_some, Option.getD_some]
    rfl
  case inr.inr.inr.inr.inr.inr.inr.inr.inr.inr.inr.inr.inr.inr.inr.inr.inr.inr.inr.inr.inr.inr.inr.inr.inr.inr.inr.inr.inr.inr.inr.inr.inl =>
    subst h33
    have hl : A < (m.Imports.length : Int) := by
      have : thereP m c ⟨33, A⟩ s = decide (A < (m.Imports.length : Int)) := rfl
      rw [this, decide_eq_true_eq] at ht; exact ht
    have hb : inB A m.Imports.length = true := inB_int ⟨hA (by omega), hl⟩
    simp only [hb, Option.isSome_some, Option.getD_some]
    rfl
  all_goals first | rfl | (exfalso; omega)
theorem effect_i (m : SModule) (c : SCore) (bl : List SCodeBlock) (i : SIns) (s : CSt) (hi : 1 ≤ i.Op ∧ i.Op ≤ 40) (hA : i.Op ≠ 1 → 0 ≤ i.A) (hn : i.Op ≠ 27 ∧ i.Op ≠ 28) (ht : thereP m c i s = true) :
    M.i_checker_effect (M.Schecker.mk m c bl s.nxt s.op s.ba s.h s.kn) i = some (takeP m i) := by
  obtain ⟨K, A⟩ := i
  simp only at hi hA hn
  unfold M.i_checker_effect
  simp only [bit_i]
  rcases ops40 hi with rfl|rfl|rfl|rfl|rfl|rfl|rfl|rfl|rfl|rfl|rfl|rfl|rfl|rfl|rfl|rfl|rfl|rfl|rfl|rfl|rfl|rfl|rfl|rfl|rfl|rfl|rfl|rfl|rfl|rfl|rfl|h32|h33|rfl|rfl|rfl|rfl|rfl|rfl|rfl
  case inr.inr.inr.inr.inr.inr.inr.inr.inr.inr.inr.inr.inr.inr.inr.inr.inr.inr.inr.inr.inr.inr.inr.inr.inr.inr.inr.inr.inr.inr.inr.inl =>
    subst h32
    have hl : A < (m.Cores.length : Int) := by
      have : thereP m c ⟨32, A⟩ s = decide (A < (m.Cores.length : Int)) := rfl
      rw [this, decide_eq_true_eq] at ht; exact ht
    have hb : inB A m.Cores.length = true := inB_int ⟨hA (by omega), hl⟩
    simp only [hb, Option.isSome_some, Option.getD_some]
    rfl
  case inr.inr.inr.inr.inr.inr.inr.inr.inr.inr.inr.inr.inr.inr.inr.inr.inr.inr.inr.inr.inr.inr.inr.inr.inr.inr.inr.inr.inr.inr.inr.inr.inl =>
    subst h33
    have hl : A < (m.Imports.length : Int) := by
      have : thereP m c ⟨33, A⟩ s = decide (A < (m.Imports.length : Int)) := rfl
      rw [this, decide_eq_true_eq] at ht; exact ht
    have hb : inB A m.Imports.length = true := inB_int ⟨hA (by omega), hl⟩
    simp only [hb, Option.isSome_some, Option.getD_some]
    rfl
  all_goals first | rfl | (exfalso; omega)
end M
/-
  BASES, BRANCHES, BLOCKS THAT OPEN: as both ask them.
-/
set_option linter.unusedVariables false
set_option linter.unusedSimpArgs false
namespace M
open Go.V (inB slB bigN bigN_le)

theorem pr_getD (l : List SCodeBlock) (j : Nat) : (l.map pr).getD j (0, false) = pr (l.getD j SCodeBlock.zero) := by
  rw [List.getD_eq_getElem?_getD, List.getD_eq_getElem?_getD, List.getElem?_map]
  cases l[j]? <;> rfl
def PIn (c : SCore) (P : List (Int × Bool)) : Prop := ∀ x ∈ P, 0 ≤ x.1 ∧ x.1 < (c.Code.length : Int)
theorem at_in {c : SCore} {P : List (Int × Bool)} (hP : PIn c P) {o : List SCodeBlock} (ho : o.map pr = P) {j : Nat} (hj : j < o.length) : inB (o.getD j SCodeBlock.zero).At c.Code.length = true := by
  refine inB_int (hP (pr (o.getD j SCodeBlock.zero)) ?_)
  rw [← ho, getD_lt hj]
  exact List.mem_map.2 ⟨_, List.getElem_mem hj, rfl⟩
structure SRel (P : List (Int × Bool)) (s : CSt) (o1 : List SCodeBlock) : Prop where
  pr : o1.map pr = P
  ht : ∀ j, j < s.op.length → (o1.getD (s.op.getD j 0).toNat SCodeBlock.zero).Height = s.ba.getD j 0
structure SIn (P : List (Int × Bool)) (s : CSt) : Prop where
  op : ∀ x ∈ s.op, 0 ≤ x ∧ x < (P.length : Int)
  six : s.op.length ≤ 6
  len : s.ba.length = s.op.length
theorem SIn.at_ {P : List (Int × Bool)} {s : CSt} (h : SIn P s) {j : Nat} (hj : j < s.op.length) : (s.op.getD j 0).toNat < P.length ∧ (((s.op.getD j 0).toNat : Nat) : Int) = s.op.getD j 0 := by
  have := h.op (s.op.getD j 0) (by rw [getD_lt hj]; exact List.getElem_mem hj)
  omega

theorem base_s {P : List (Int × Bool)} {s : CSt} {o1 : List SCodeBlock} (hr : SRel P s o1) (hi : SIn P s) (m : SModule) (c : SCore) (h : Int) (d : Bool) : M.s_l16R_base (M.Sl16R.mk m c o1 s.op h d) = some (baseP s) := by
  unfold M.s_l16R_base baseP
  simp only
  by_cases h0 : s.op.length = 0
  · rw [h0, if_pos (by rw [hi.len]; exact h0)]; rfl
  · have hp : decide ((0 : Int) < ((s.op.length : Nat) : Int)) = true := by rw [decide_eq_true_eq]; omega
    have hj : s.op.length - 1 < s.op.length := by omega
    obtain ⟨h1, h2⟩ := hi.at_ hj
    have hl : o1.length = P.length := by rw [← hr.pr, List.length_map]
    have e := hr.ht _ hj
    rw [if_neg (by rw [hi.len]; exact h0), hp, cond_true, wrap_len h0 hi.six, Int.toNat_natCast, hi.len]
    rw [← e, ← h2]
    simp only [inB_nat, Int.toNat_natCast, hl, h1, hj, decide_true, Bool.and_self, cond_true]
theorem base_i (s : CSt) (h6 : s.ba.length ≤ 6) (m : SModule) (c : SCore) (bl : List SCodeBlock) : M.i_checker_base (M.Schecker.mk m c bl s.nxt s.op s.ba s.h s.kn) = some (baseP s) := by
  unfold M.i_checker_base baseP
  simp only
  by_cases h0 : s.ba.length = 0
  · rw [if_pos h0, h0]; rfl
  · have q : (((s.ba.length : Nat) : Int) == 0) = false := by rw [beq_eq_false_iff_ne]; omega
    rw [if_neg h0, q, cond_false, wrap_len h0 h6, Int.toNat_natCast, inB_nat, decide_eq_true (by omega : s.ba.length - 1 < s.ba.length)]
    rfl

theorem carried_i {m : SModule} {c : SCore} {P : List (Int × Bool)} (hP : PIn c P) {bl : List SCodeBlock} (hb : bl.map pr = P) {s : CSt} (hi : SIn P s) (i : SIns) (hA : i.Op ≠ 1 → 0 ≤ i.A) (ht : thereP m c i s = true) :
    M.i_checker_carried (M.Schecker.mk m c bl s.nxt s.op s.ba s.h s.kn) i = some (needP c P i s) := by
  unfold M.i_checker_carried needP
  simp only [bit_i, Option.isSome_some, Option.getD_some, Bool.and_true, Bool.true_and, cond_true]
  by_cases h31 : i.Op = 31
  · rw [if_pos h31, h31]; rfl
  · have q31 : (i.Op == 31) = false := by rw [beq_eq_false_iff_ne]; exact h31
    rw [if_neg h31, q31, cond_false, bifs]
    by_cases hbr : i.Op = 29 ∨ i.Op = 30
    · have qbr : (i.Op == 29 || i.Op == 30) = true := by rw [Bool.or_eq_true, beq_iff_eq, beq_iff_eq]; exact hbr
      rw [if_pos hbr, qbr, cond_true]
      have hA0 : 0 ≤ i.A := hA (by omega)
      have hle : i.A ≤ (s.op.length : Int) := by
        unfold thereP at ht
        rw [if_neg (by omega), if_neg (by omega), if_neg (by omega), if_pos hbr, decide_eq_true_eq] at ht
        exact ht
      have h6 := hi.six
      have hw : Go.IntKind.wrap .i64 (Go.IntKind.wrap .i64 ((s.op.length : Int) - 1) - i.A) = (s.op.length : Int) - 1 - i.A := by
        rw [wrap_i64 (n := (s.op.length : Int) - 1) (by omega) (by omega), wrap_i64 (by omega) (by omega)]
      rw [hw]
      by_cases hd : (s.op.length : Int) - 1 - i.A < 0
      · rw [if_pos hd, decide_eq_true hd, cond_true]
      · rw [if_neg hd, decide_eq_false hd, cond_false]
        obtain ⟨j, hj⟩ := Int.eq_ofNat_of_zero_le (by omega : 0 ≤ (s.op.length : Int) - 1 - i.A)
        rw [hj]
        have hjl : j < s.op.length := by omega
        obtain ⟨h1, h2⟩ := hi.at_ hjl
        have hl : bl.length = P.length := by rw [← hb, List.length_map]
        have hat := at_in hP hb (j := (s.op.getD j 0).toNat) (by rw [hl]; exact h1)
        have hin : inB (s.op.getD j 0) bl.length = true := by rw [← h2, inB_nat, decide_eq_true_eq, hl]; exact h1
        simp only [Int.toNat_natCast, hat, hin, inB_nat, hjl, decide_true, Bool.true_or, Bool.and_self, cond_true]
        rw [← hb, pr_getD]
        rfl
    · have qbr : (i.Op == 29 || i.Op == 30) = false := by rw [Bool.eq_false_iff, ne_eq, Bool.or_eq_true, beq_iff_eq, beq_iff_eq]; exact hbr
      rw [if_neg hbr, qbr, cond_false]
theorem carries_s {m : SModule} {c : SCore} {P : List (Int × Bool)} (hP : PIn c P) {o1 : List SCodeBlock} (hb : o1.map pr = P) {s : CSt} (hi : SIn P s) (i : SIns) (hA : 0 ≤ i.A) (hbr : i.Op = 29 ∨ i.Op = 30) (ht : thereP m c i s = true) (h : Int) (d : Bool) :
    M.s_l16R_carries (M.Sl16R.mk m c o1 s.op h d) i.A = some (needP c P i s) := by
  unfold M.s_l16R_carries needP
  simp only [one_s, Option.isSome_some, Option.getD_some, Bool.and_true, Bool.true_and, cond_true]
  rw [if_neg (by omega), if_pos hbr]
  have hle : i.A ≤ (s.op.length : Int) := by
    unfold thereP at ht
    rw [if_neg (by omega), if_neg (by omega), if_neg (by omega), if_pos hbr, decide_eq_true_eq] at ht
    exact ht
  have h6 := hi.six
  by_cases hd : i.A = (s.op.length : Int)
  · rw [if_pos (by omega), hd, beq_self_eq_true, cond_true]
  · have q : (i.A == (s.op.length : Int)) = false := by rw [beq_eq_false_iff_ne]; exact hd
    rw [if_neg (by omega), q, cond_false]
    have hw : Go.IntKind.wrap .i64 (Go.IntKind.wrap .i64 ((s.op.length : Int) - 1) - i.A) = (s.op.length : Int) - 1 - i.A := by
      rw [wrap_i64 (n := (s.op.length : Int) - 1) (by omega) (by omega), wrap_i64 (by omega) (by omega)]
    rw [hw]
    obtain ⟨j, hj⟩ := Int.eq_ofNat_of_zero_le (by omega : 0 ≤ (s.op.length : Int) - 1 - i.A)
    rw [hj]
    have hjl : j < s.op.length := by omega
    obtain ⟨h1, h2⟩ := hi.at_ hjl
    have hl : o1.length = P.length := by rw [← hb, List.length_map]
    have hat := at_in hP hb (j := (s.op.getD j 0).toNat) (by rw [hl]; exact h1)
    have hin : inB (s.op.getD j 0) o1.length = true := by rw [← h2, inB_nat, decide_eq_true_eq, hl]; exact h1
    simp only [Int.toNat_natCast, hat, hin, inB_nat, hjl, decide_true, Bool.and_self, cond_true]
    rw [← hb, pr_getD]
    show _ = some (bitI ((pr (o1.getD (s.op.getD j 0).toNat SCodeBlock.zero)).2 && !(opAt c.Code (pr (o1.getD (s.op.getD j 0).toNat SCodeBlock.zero)).1 == 25)))
    have e1 : (pr (o1.getD (s.op.getD j 0).toNat SCodeBlock.zero)).1 = (o1.getD (s.op.getD j 0).toNat SCodeBlock.zero).At := rfl
    have e2 : (pr (o1.getD (s.op.getD j 0).toNat SCodeBlock.zero)).2 = (o1.getD (s.op.getD j 0).toNat SCodeBlock.zero).Result := rfl
    rw [e1, e2]
    show (bif (opAt c.Code (o1.getD (s.op.getD j 0).toNat SCodeBlock.zero).At == 25) then some (0 : Int) else some (bitI (o1.getD (s.op.getD j 0).toNat SCodeBlock.zero).Result)) = _
    cases (opAt c.Code (o1.getD (s.op.getD j 0).toNat SCodeBlock.zero).At == 25) <;> cases (o1.getD (s.op.getD j 0).toNat SCodeBlock.zero).Result <;> rfl

theorem opened_s {P : List (Int × Bool)} {o1 : List SCodeBlock} (hb : o1.map pr = P) (hinc : P.Pairwise fun a b => a.1 < b.1) (hlen : P.length < 2 ^ 62) {j k : Nat} (hj : j < P.length) (hk : (P[j]).1 = (k : Int)) (m : SModule) (c : SCore) (op : List Int) (h : Int) (d : Bool) :
    M.s_l16R_opened (M.Sl16R.mk m c o1 op h d) (k : Int) = some (j : Int) := by
  have hl : o1.length = P.length := by rw [← hb, List.length_map]
  have e := find_list (p := fun b : SCodeBlock => b.At == (k : Int)) (F := M.s_l16R_opened_l0 (M.Sl16R.mk m c o1 op h d) (k : Int)) (e := ()) (fun k => k) o1 (by omega) (fun f q hq => by
    rw [M.s_l16R_opened_l0]
    simp only [getD_lt hq, Int.toNat_natCast, inB_nat, Int.ofNat_lt, hq, decide_true, cond_true, Bool.and_true, wrapk hq (by omega : o1.length < 2 ^ 62)]) (fun f => by
    rw [M.s_l16R_opened_l0]; simp)
  have e2 : o1.findIdx? (fun b : SCodeBlock => b.At == (k : Int)) = some j := by
    have h1 := inc_find hinc hj (fun x => x.1 == (k : Int)) (fun x => by rw [hk])
    rw [← hb, List.findIdx?_map] at h1
    exact h1
  unfold M.s_l16R_opened
  rw [e, e2]
end M
/-
  ONE STEP of the check, as the spec takes it.
-/
set_option linter.unusedVariables false
set_option linter.unusedSimpArgs false
namespace M
open Go.V (inB slB bigN bigN_le)

abbrev RS := Int × List SImport × List SCore × List UInt8 × Int × Int × Bool × List SIns × Int × Bool × List SCodeBlock × List Int
def stS (m : SModule) (c : SCore) (s : CSt) (o1 : List SCodeBlock) : RS := (m.Pages, m.Imports, m.Cores, c.Name, c.Params, c.Locals, c.Result, c.Code, s.h, !s.kn, o1, s.op)
theorem eta_m (m : SModule) : M.SModule.mk m.Pages m.Imports m.Cores = m := rfl
theorem eta_c (c : SCore) : M.SCore.mk c.Name c.Params c.Locals c.Result c.Code = c := rfl
structure At_ (m : SModule) (c : SCore) (P : List (Int × Bool)) (e : Int) (k : Nat) (i : SIns) (B B' : BS) (s : CSt) : Prop where
  mok : MOk m
  core : c ∈ m.Cores
  pin : PIn c P
  inc : P.Pairwise fun a b => a.1 < b.1
  pl : P.length ≤ 120
  hk : k < c.Code.length
  hi : c.Code.getD k SIns.zero = i
  cinv : CInv B s
  binv : BInv k B
  step : bStep e c.Code k i B = .inr B'
  pre : ∃ r, P = prS B' ++ r
theorem At_.sin {m : SModule} {c : SCore} {P : List (Int × Bool)} {e : Int} {k : Nat} {i : SIns} {B B' : BS} {s : CSt} (h : At_ m c P e k i B B' s) : SIn P s ∧ B.1.length ≤ P.length := by
  obtain ⟨r, hr⟩ := h.pre
  have hl : ∀ t : BS, (prS t).length = t.1.length := fun t => by simp [prS]
  have hle : B.1.length ≤ P.length := by
    rw [hr, List.length_append, ← hl B]
    rcases bStep_pr h.step with ⟨_, _, hp, _⟩ | ⟨_, hp, _⟩ <;> rw [hp]
    · rw [List.length_append]; omega
    · omega
  refine ⟨⟨?_, by rw [h.cinv.op]; exact h.binv.six, h.cinv.len⟩, hle⟩
  rw [h.cinv.op]
  intro x hx
  have := h.binv.opn x hx; omega
theorem At_.op {m : SModule} {c : SCore} {P : List (Int × Bool)} {e : Int} {k : Nat} {i : SIns} {B B' : BS} {s : CSt} (h : At_ m c P e k i B B' s) : (1 ≤ i.Op ∧ i.Op ≤ 40) ∧ (i.Op ≠ 1 → 0 ≤ i.A) := by
  have := h.mok.ins c h.core i (by rw [← h.hi, getD_lt h.hk]; exact List.getElem_mem h.hk)
  exact ⟨this.1, fun h1 => (this.2 h1).1⟩
theorem At_.open_ {m : SModule} {c : SCore} {P : List (Int × Bool)} {e : Int} {k : Nat} {i : SIns} {B B' : BS} {s : CSt} (h : At_ m c P e k i B B' s) (hi : i.Op = 27 ∨ i.Op = 28) : s.op.length ≠ 0 := by
  rw [h.cinv.op]
  rcases bStep_pr h.step with ⟨ho, _, _, _⟩ | ⟨_, _, hop⟩
  · unfold opnB at ho; simp only [Bool.or_eq_true, beq_iff_eq] at ho; omega
  · rcases hop with ⟨_, h, _⟩ | ⟨_, h, _⟩ | ⟨h1, h2, _⟩
    · exact h
    · exact h
    · omega
theorem At_.new {m : SModule} {c : SCore} {P : List (Int × Bool)} {e : Int} {k : Nat} {i : SIns} {B B' : BS} {s : CSt} (h : At_ m c P e k i B B' s) (ho : opnB i.Op = true) : ∃ hj : B.1.length < P.length, (P[B.1.length]).1 = (k : Int) := by
  obtain ⟨r, hr⟩ := h.pre
  have hl : (prS B).length = B.1.length := by simp [prS]
  rcases bStep_pr h.step with ⟨_, _, hp, _⟩ | ⟨ho', _, _⟩
  · have hP : P = prS B ++ ((k : Int), i.A == 1) :: r := by rw [hr, hp, List.append_assoc]; rfl
    have hj : B.1.length < P.length := by rw [hP, List.length_append, hl, List.length_cons]; omega
    refine ⟨hj, ?_⟩
    have : P[B.1.length]? = some ((k : Int), i.A == 1) := by
      rw [hP, List.getElem?_append_right (by rw [hl]; exact Nat.le_refl _), hl, Nat.sub_self]; rfl
    rw [List.getElem?_eq_getElem hj] at this
    rw [Option.some.inj this]
  · rw [ho] at ho'; cases ho'

theorem close_s {m : SModule} {c : SCore} {P : List (Int × Bool)} {s : CSt} {o1 : List SCodeBlock} (hr : SRel P s o1) (hi : SIn P s) (h0 : s.op.length ≠ 0) (hb : 0 ≤ baseP s ∧ baseP s ≤ 24) (e28 : Bool) :
    M.s_l16R_close e28 m.Pages m.Imports m.Cores c.Name c.Params c.Locals c.Result c.Code s.h (!s.kn) o1 s.op = some (if s.kn = true ∧ s.h ≠ baseP s + bitI (topP P s).2 then (false, stS m c s o1)
      else if e28 = true then (true, stS m c { s with kn := true, h := baseP s + bitI (topP P s).2, op := s.op.take (s.op.length - 1), ba := s.ba.take (s.ba.length - 1) } o1)
      else (true, stS m c { s with kn := true, h := baseP s } o1)) := by
  have hj : s.op.length - 1 < s.op.length := by omega
  obtain ⟨h1, h2⟩ := hi.at_ hj
  have hl : o1.length = P.length := by rw [← hr.pr, List.length_map]
  have eh : (o1.getD (s.op.getD (s.op.length - 1) 0).toNat SCodeBlock.zero).Height = baseP s := by
    rw [hr.ht _ hj]; unfold baseP; rw [if_neg (by rw [hi.len]; exact h0), hi.len]
  have er : (o1.getD (s.op.getD (s.op.length - 1) 0).toNat SCodeBlock.zero).Result = (topP P s).2 := by
    unfold topP; rw [← hr.pr, pr_getD]; rfl
  have hin : inB (s.op.getD (s.op.length - 1) 0) o1.length = true := by rw [← h2, inB_nat, decide_eq_true_eq, hl]; exact h1
  have hbit := bitI_le (topP P s).2
  have hsl : slB (0 : Int) ((s.op.length - 1 : Nat) : Int) s.op.length = true := by unfold slB; simp
  have hw : Go.IntKind.wrap .i64 (baseP s + bitI (topP P s).2) = baseP s + bitI (topP P s).2 := wrap_i64 (by omega) (by omega)
  unfold M.s_l16R_close
  simp only [wrap_len h0 hi.six, Int.toNat_natCast, eh, er, one_s, Option.getD_some, Option.isSome_some, hw, hin, inB_nat, hj, decide_true, Bool.true_or, Bool.and_self, Bool.and_true, cond_true, Bool.not_not, hsl]
  by_cases hc : s.kn = true ∧ s.h ≠ baseP s + bitI (topP P s).2
  · have q : (s.kn && (s.h != baseP s + bitI (topP P s).2)) = true := by rw [Bool.and_eq_true, bne_iff_ne]; exact hc
    rw [if_pos hc, q]; rfl
  · have q : (s.kn && (s.h != baseP s + bitI (topP P s).2)) = false := by rw [Bool.eq_false_iff, ne_eq, Bool.and_eq_true, bne_iff_ne]; exact hc
    rw [if_neg hc, q]
    cases e28 <;> rfl
theorem srel_take {P : List (Int × Bool)} {s : CSt} {o1 : List SCodeBlock} (hr : SRel P s o1) (hi : SIn P s) (h : Int) : SRel P { s with kn := true, h := h, op := s.op.take (s.op.length - 1), ba := s.ba.take (s.ba.length - 1) } o1 := by
  refine ⟨hr.pr, fun j hj => ?_⟩
  simp only [List.length_take] at hj
  have e1 : (s.op.take (s.op.length - 1)).getD j 0 = s.op.getD j 0 := by
    rw [List.getD_eq_getElem?_getD, List.getD_eq_getElem?_getD, List.getElem?_take, if_pos (by omega)]
  have e2 : (s.ba.take (s.ba.length - 1)).getD j 0 = s.ba.getD j 0 := by
    rw [List.getD_eq_getElem?_getD, List.getD_eq_getElem?_getD, List.getElem?_take, if_pos (by rw [hi.len]; omega)]
  simp only [e1, e2]
  exact hr.ht j (by omega)

theorem step_s {m : SModule} {c : SCore} {P : List (Int × Bool)} {e : Int} {k : Nat} {i : SIns} {B B' : BS} {s : CSt} {o1 : List SCodeBlock} (h : At_ m c P e k i B B' s) (hr : SRel P s o1) :
    ∃ y : Int × RS, M.s_l16R_step (k : Int) m.Pages m.Imports m.Cores c.Name c.Params c.Locals c.Result c.Code s.h (!s.kn) o1 s.op = some y ∧ (match cStep m c P i s with
      | .inl x => y.1 = x
      | .inr s' => ∃ o1', y = (0, stS m c s' o1') ∧ SRel P s' o1') := by
  obtain ⟨hi, hle⟩ := h.sin
  obtain ⟨hop, hA⟩ := h.op
  have hbl := baseP_le h.cinv
  have hbit := bitI_le (topP P s).2
  have hk := h.hk
  unfold M.s_l16R_step cStep
  simp only [Int.toNat_natCast, h.hi, inB_nat, hk, decide_true, Bool.and_true, eta_m, eta_c]
  by_cases ht : i.Op = 27 ∨ i.Op = 28
  · have h0 := h.open_ ht
    have qt : (i.Op == 27 || i.Op == 28) = true := by rw [Bool.or_eq_true, beq_iff_eq, beq_iff_eq]; exact ht
    rw [if_pos ht, qt, cond_true, close_s (m := m) (c := c) hr hi h0 hbl (i.Op == 28)]
    by_cases hc : s.kn = true ∧ s.h ≠ baseP s + bitI (topP P s).2
    · rw [if_pos hc, if_pos hc]
      exact ⟨_, rfl, rfl⟩
    · rw [if_neg hc, if_neg hc]
      by_cases h27 : i.Op = 27
      · have q28 : (i.Op == 28) = false := by rw [beq_eq_false_iff_ne]; omega
        rw [if_pos h27, q28, if_neg (by decide)]
        have : decide ((24 : Int) < baseP s) = false := by rw [decide_eq_false_iff_not]; omega
        refine ⟨(0, stS m c { s with kn := true, h := baseP s } o1), ?_, o1, rfl, ⟨hr.pr, hr.ht⟩⟩
        simp only [stS, Option.getD_some, this, Bool.not_true, cond_false, Option.isSome_some, cond_true]
      · have h28 : i.Op = 28 := by omega
        have q28 : (i.Op == 28) = true := by rw [beq_iff_eq]; exact h28
        rw [if_neg h27, q28, if_pos rfl]
        by_cases h24 : 24 < baseP s + bitI (topP P s).2
        · rw [if_pos h24]
          simp only [stS, Option.getD_some, decide_eq_true h24, Bool.not_true, cond_false, Option.isSome_some, cond_true]
          exact ⟨_, rfl, rfl⟩
        · rw [if_neg h24]
          refine ⟨(0, stS m c { s with kn := true, h := baseP s + bitI (topP P s).2, op := s.op.take (s.op.length - 1), ba := s.ba.take (s.ba.length - 1) } o1), ?_, o1, rfl, srel_take hr hi _⟩
          simp only [stS, Option.getD_some, decide_eq_false h24, Bool.not_true, cond_false, Option.isSome_some, cond_true]
  · have qt : (i.Op == 27 || i.Op == 28) = false := by rw [Bool.eq_false_iff, ne_eq, Bool.or_eq_true, beq_iff_eq, beq_iff_eq]; exact ht
    have hcore := h.mok.core c h.core
    rw [if_neg ht, qt, cond_false]
    by_cases hkn : s.kn = false
    · rw [if_pos hkn, hkn]
      exact ⟨_, rfl, rfl⟩
    · have hkn' : s.kn = true := by simpa using hkn
      rw [if_neg hkn, hkn']
      simp only [Bool.not_true, cond_false, there_s m c i s hcore.1 hcore.2.1 hop, Option.getD_some, Option.isSome_some, Bool.and_self, Bool.true_and, cond_true]
      by_cases hth : thereP m c i s = false
      · rw [if_pos hth, hth]
        exact ⟨_, rfl, rfl⟩
      · have hth' : thereP m c i s = true := by simpa using hth
        rw [if_neg hth, hth']
        have htk := takeP_le h.mok i
        have hst := h.cinv.h
        simp only [Bool.not_true, cond_false, take_s m c i s hop hA ⟨fun q => ht (.inl q), fun q => ht (.inr q)⟩ hth', base_s hr hi m c, Option.getD_some, Option.isSome_some, Bool.and_self, Bool.true_and, cond_true]
        have w1 : Go.IntKind.wrap .i64 (s.h - (takeP m i).1) = s.h - (takeP m i).1 := wrap_i64 (by omega) (by omega)
        have w2 : Go.IntKind.wrap .i64 (s.h + Go.IntKind.wrap .i64 ((takeP m i).2 - (takeP m i).1)) = s.h - (takeP m i).1 + (takeP m i).2 := by
          rw [wrap_i64 (n := (takeP m i).2 - (takeP m i).1) (by omega) (by omega), wrap_i64 (by omega) (by omega)]; omega
        rw [w1, w2]
        by_cases hb : s.h - (takeP m i).1 < baseP s
        · rw [if_pos hb, decide_eq_true hb]
          exact ⟨_, rfl, rfl⟩
        · rw [if_neg hb, decide_eq_false hb, cond_false]
          by_cases h24 : 24 < s.h - (takeP m i).1 + (takeP m i).2
          · rw [if_pos h24, decide_eq_true h24]
            exact ⟨_, rfl, rfl⟩
          · rw [if_neg h24, decide_eq_false h24, cond_false]
            have hnb : 0 ≤ needP c P i s ∧ needP c P i s ≤ 1 := by
              unfold needP
              repeat' split
              · exact bitI_le _
              · exact bitI_le _
              · exact bitI_le _
              · omega
            have hneed : (bif (bif i.Op == 29 then i.Op == 29 else i.Op == 30) then (M.s_l16R_carries (M.Sl16R.mk m c o1 s.op (s.h - (takeP m i).1 + (takeP m i).2) false) i.A).getD Inhabited.default else (bif i.Op == 31 then (M.s_l16One c.Result).getD Inhabited.default else (0 : Int))) = needP c P i s ∧ ((bif i.Op == 29 then i.Op == 29 else i.Op == 30) = true → (M.s_l16R_carries (M.Sl16R.mk m c o1 s.op (s.h - (takeP m i).1 + (takeP m i).2) false) i.A).isSome = true) := by
              rw [bifs]
              by_cases hbr : i.Op = 29 ∨ i.Op = 30
              · have qbr : (i.Op == 29 || i.Op == 30) = true := by rw [Bool.or_eq_true, beq_iff_eq, beq_iff_eq]; exact hbr
                rw [qbr, cond_true, carries_s h.pin hr.pr hi i (hA (by omega)) hbr hth']
                exact ⟨rfl, fun _ => rfl⟩
              · have qbr : (i.Op == 29 || i.Op == 30) = false := by rw [Bool.eq_false_iff, ne_eq, Bool.or_eq_true, beq_iff_eq, beq_iff_eq]; exact hbr
                rw [qbr, cond_false, one_s]
                refine ⟨?_, fun q => by cases q⟩
                unfold needP
                by_cases h31 : i.Op = 31
                · rw [if_pos h31, h31]; rfl
                · have q31 : (i.Op == 31) = false := by rw [beq_eq_false_iff_ne]; exact h31
                  rw [if_neg h31, if_neg hbr, q31]; rfl
            obtain ⟨hneed, hsome⟩ := hneed
            rw [hneed]
            have w3 : Go.IntKind.wrap .i64 (s.h - (takeP m i).1 + (takeP m i).2 - needP c P i s) = s.h - (takeP m i).1 + (takeP m i).2 - needP c P i s := wrap_i64 (by omega) (by omega)
            rw [w3, one_s]
            generalize hq8 : (bif i.Op == 29 then i.Op == 29 else i.Op == 30) = q8 at hsome
            generalize (M.s_l16R_carries (M.Sl16R.mk m c o1 s.op (s.h - (takeP m i).1 + (takeP m i).2) false) i.A).isSome = cs at hsome
            have hg : ((((cs && ((true || !(i.Op == 29)) && (true || (i.Op == 29)))) || !q8) && (((((true : Bool) && ((true || !(i.Op == 29)) && (true || (i.Op == 29)))) || !(i.Op == 31)) && (((true || !(i.Op == 29)) && (true || (i.Op == 29))) || (i.Op == 31))) || q8))) = true := by
              cases q8
              · simp
              · rw [hsome rfl]; simp
            simp only [Option.isSome_some, Bool.true_or, Bool.and_self, Bool.true_and, Bool.and_true] at hg ⊢
            by_cases hnd : s.h - (takeP m i).1 + (takeP m i).2 - needP c P i s < baseP s
            · rw [if_pos hnd, decide_eq_true hnd, cond_true]
              simp only [hg, cond_true]
              exact ⟨_, rfl, rfl⟩
            · rw [if_neg hnd, decide_eq_false hnd, cond_false]
              rw [show (i.Op == 24 || i.Op == 25 || i.Op == 26) = opnB i.Op from rfl]
              by_cases ho : opnB i.Op = true
              · obtain ⟨hj, hat⟩ := h.new ho
                have hl : o1.length = P.length := by rw [← hr.pr, List.length_map]
                have hown : M.s_l00Own s.op = some s.op := by
                  unfold M.s_l00Own
                  have := hi.six
                  rw [show decide (0 + s.op.length ≤ 1073741824) = true by rw [decide_eq_true_eq]; omega]
                  rfl
                have hd : decide (s.op.length + 1 ≤ 1073741824) = true := by have := hi.six; rw [decide_eq_true_eq]; omega
                have hjl : B.1.length < o1.length := by rw [hl]; exact hj
                simp only [ho, cond_true, hown, opened_s hr.pr h.inc (by have := h.pl; omega) hj hat, Option.getD_some, Option.isSome_some, Int.toNat_natCast, inB_nat, hjl, decide_true, hg, Bool.and_self, List.length_cons, List.length_nil, Nat.zero_add, hd, if_true]
                refine ⟨_, rfl, o1.set B.1.length (SCodeBlock.mk (o1.getD B.1.length SCodeBlock.zero).At (o1.getD B.1.length SCodeBlock.zero).Else (o1.getD B.1.length SCodeBlock.zero).End (s.h - (takeP m i).1 + (takeP m i).2) (o1.getD B.1.length SCodeBlock.zero).Result), ?_, ⟨?_, ?_⟩⟩
                · simp only [stS, h.cinv.nxt, Bool.not_not]
                · refine Eq.trans (set_pr o1 B.1.length _ ?_) hr.pr
                  rfl
                · intro j hj'
                  simp only [List.length_append, List.length_cons, List.length_nil] at hj' ⊢
                  rcases Nat.lt_or_ge j s.op.length with h1 | h1
                  · have e1 : (s.op ++ [s.nxt]).getD j 0 = s.op.getD j 0 := by
                      rw [List.getD_eq_getElem?_getD, List.getD_eq_getElem?_getD, List.getElem?_append_left h1]
                    have e2 : (s.ba ++ [s.h - (takeP m i).1 + (takeP m i).2]).getD j 0 = s.ba.getD j 0 := by
                      rw [List.getD_eq_getElem?_getD, List.getD_eq_getElem?_getD, List.getElem?_append_left (by rw [hi.len]; exact h1)]
                    rw [e1, e2, ← hr.ht j h1]
                    have hlt : (s.op.getD j 0).toNat ≠ B.1.length := by
                      have := h.binv.opn (s.op.getD j 0) (by rw [← h.cinv.op, getD_lt h1]; exact List.getElem_mem h1)
                      omega
                    rw [List.getD_eq_getElem?_getD, List.getElem?_set, if_neg (Ne.symm hlt), ← List.getD_eq_getElem?_getD]
                  · have : j = s.op.length := by omega
                    subst this
                    have e1 : (s.op ++ [s.nxt]).getD s.op.length 0 = s.nxt := by
                      rw [List.getD_eq_getElem?_getD, List.getElem?_append_right (Nat.le_refl _), Nat.sub_self]; rfl
                    have e2 : (s.ba ++ [s.h - (takeP m i).1 + (takeP m i).2]).getD s.op.length 0 = s.h - (takeP m i).1 + (takeP m i).2 := by
                      rw [← hi.len, List.getD_eq_getElem?_getD, List.getElem?_append_right (Nat.le_refl _), Nat.sub_self]; rfl
                    rw [e1, e2, h.cinv.nxt, Int.toNat_natCast, List.getD_eq_getElem?_getD, List.getElem?_set, if_pos rfl, if_pos hjl]; rfl
              · have ho' : opnB i.Op = false := by simpa using ho
                simp only [ho', cond_false, hg, cond_true, Bool.false_eq_true, if_false]
                refine ⟨_, rfl, o1, ?_, ⟨hr.pr, hr.ht⟩⟩
                simp only [stS, Bool.not_not]
end M
/-
  THE CHECK of a core, as the spec runs it.
-/
set_option linter.unusedVariables false
set_option linter.unusedSimpArgs false
namespace M
open Go.V (inB slB bigN bigN_le)

theorem cStep_err {m : SModule} {c : SCore} {P : List (Int × Bool)} {i : SIns} {s : CSt} {x : Int} (h : cStep m c P i s = .inl x) : x ≠ 0 := by
  unfold cStep at h
  repeat' split at h
  all_goals cases h
  all_goals decide
theorem bStep_err {e : Int} {c : List SIns} {k : Nat} {i : SIns} {s : BS} {x : Int} (h : bStep e c k i s = .inl x) : x ≠ 0 := by
  unfold bStep at h
  repeat' split at h
  all_goals cases h
  all_goals decide
theorem bRun_err {e : Int} {c : List SIns} : ∀ (n k : Nat) (s : BS) (p : Int × Int), bRun e c n k s = .inl p → p.2 ≠ 0
  | 0, k, s, p, h => by simp only [bRun] at h; cases h
  | n + 1, k, s, p, h => by
    simp only [bRun] at h
    cases hx : bStep e c k (c.getD k SIns.zero) s with
    | inl x => rw [hx] at h; injection h with h; subst h; exact bStep_err hx
    | inr s' => rw [hx] at h; exact bRun_err n (k + 1) s' p h
theorem place_s (m : SModule) (c : SCore) (s : CSt) (o1 : List SCodeBlock) (h6 : s.op.length ≤ 6) : M.s_l16R_place m.Pages m.Imports m.Cores c.Name c.Params c.Locals c.Result c.Code s.h (!s.kn) o1 s.op = some (placeP s, stS m c s o1) := by
  have hown : M.s_l00Own s.op = some s.op := by
    unfold M.s_l00Own
    rw [show decide (0 + s.op.length ≤ 1073741824) = true by rw [decide_eq_true_eq]; omega]
    rfl
  unfold M.s_l16R_place placeP stS
  rw [hown]
  cases s.kn <;> rfl
structure Fin_ (m : SModule) (c : SCore) (P : List (Int × Bool)) (Bf : BS) : Prop where
  mok : MOk m
  core : c ∈ m.Cores
  P : P = prS Bf
  inv : BInv c.Code.length Bf
theorem Fin_.at_ {m : SModule} {c : SCore} {P : List (Int × Bool)} {Bf : BS} (h : Fin_ m c P Bf) {e : Int} {k r : Nat} {B B' : BS} {s : CSt} (hk : k < c.Code.length) (hB : BInv k B) (hs : CInv B s) (hb : bStep e c.Code k (c.Code.getD k SIns.zero) B = .inr B') (hr : bRun e c.Code r (k + 1) B' = .inr Bf) : At_ m c P e k (c.Code.getD k SIns.zero) B B' s := by
  have hl : P.length = Bf.1.length := by rw [h.P]; simp [prS]
  exact { mok := h.mok, core := h.core, pin := by rw [h.P]; exact h.inv.lt, inc := by rw [h.P]; exact h.inv.inc, pl := by rw [hl]; have := h.inv.cnt; have := (h.mok.core c h.core).2.2; omega, hk := hk, hi := rfl, cinv := hs, binv := hB, step := hb,
          pre := by rw [h.P]; exact (bRun_pre r (k + 1) B' Bf (bStep_inv hB hb) hr).1 }

theorem core_loop_s {m : SModule} {c : SCore} {P : List (Int × Bool)} {Bf : BS} {e : Int} (hf : Fin_ m c P Bf) : ∀ (f k : Nat) (B : BS) (s : CSt) (o1 : List SCodeBlock) (out : List SCodePlace), k ≤ c.Code.length → c.Code.length - k < f → BInv k B → CInv B s → bRun e c.Code (c.Code.length - k) k B = .inr Bf → SRel P s o1 → out.length = k →
    ∃ o1', M.s_l16Core_l0 c f (k : Int) m.Pages m.Imports m.Cores c.Name c.Params c.Locals c.Result c.Code s.h (!s.kn) out o1 s.op = some (match cRun m c P (c.Code.length - k) k s out with
      | .inl p => .inl (p.1, p.2, [])
      | .inr p => .inr (c, m.Pages, m.Imports, m.Cores, c.Name, c.Params, c.Locals, c.Result, c.Code, p.1.h, !p.1.kn, p.2, o1', p.1.op))
  | 0, k, B, s, o1, out, h1, h2, _, _, _, _, _ => by omega
  | f + 1, k, B, s, o1, out, h1, h2, hB, hs, hb, hr, hl => by
    have hn := (hf.mok.core c hf.core).2.2
    rcases Nat.lt_or_ge k c.Code.length with hk | hk
    · obtain ⟨r, hrn⟩ : ∃ r, c.Code.length - k = r + 1 := ⟨c.Code.length - k - 1, by omega⟩
      have hr' : c.Code.length - (k + 1) = r := by omega
      rw [hrn] at hb ⊢
      simp only [bRun] at hb
      cases hx : bStep e c.Code k (c.Code.getD k SIns.zero) B with
      | inl x => rw [hx] at hb; cases hb
      | inr B' =>
        rw [hx] at hb
        simp only at hb
        have hat := hf.at_ hk hB hs hx hb
        obtain ⟨y, hy, hc⟩ := step_s hat hr
        have h6 : s.op.length ≤ 6 := by rw [hs.op]; exact hB.six
        rw [M.s_l16Core_l0]
        have hw : Go.IntKind.wrap .i64 ((k : Int) + 1) = ((k + 1 : Nat) : Int) := wrapk hk (by omega)
        have hd : decide (out.length + ([placeP s] : List SCodePlace).length ≤ 1073741824) = true := by rw [decide_eq_true_eq, hl, List.length_cons, List.length_nil]; omega
        simp only [Int.ofNat_lt, hk, decide_true, cond_true, place_s m c s o1 h6, Option.getD_some, stS, hy, Option.isSome_some, Bool.and_true, Bool.and_self, hd, hw, cRun]
        cases hcs : cStep m c P (c.Code.getD k SIns.zero) s with
        | inl x =>
          rw [hcs] at hc
          simp only at hc
          have : (y.1 != 0) = true := by rw [bne_iff_ne, hc]; exact cStep_err hcs
          exact ⟨[], by rw [this, hc]; rfl⟩
        | inr s' =>
          rw [hcs] at hc
          obtain ⟨o1', rfl, hr2⟩ := hc
          have hz : (((0 : Int) != 0)) = false := by decide
          obtain ⟨o2, ho2⟩ := core_loop_s hf f (k + 1) B' s' o1' (out ++ [placeP s]) (by omega) (by omega) (bStep_inv hB hx) (cStep_inv hf.mok hs hx hcs) (by rw [hr']; exact hb) hr2 (by rw [List.length_append, hl]; rfl)
          rw [hr'] at ho2
          refine ⟨o2, ?_⟩
          simp only [hz, cond_false, stS]
          exact ho2
    · have : k = c.Code.length := by omega
      subst this
      refine ⟨o1, ?_⟩
      rw [M.s_l16Core_l0]
      simp [cRun]

/-! ### a core -/

def s0 : CSt := ⟨0, [], [], 0, true⟩
def pbl (e : Int) (c : SCore) : (Int × Int) ⊕ List (Int × Bool) := mapR (List.map pr) (blocksP e c)
theorem pbl_eq (e e' : Int) (c : SCore) : pbl e c = pbl e' c := by
  have h := bRun_strip e e' c.Code c.Code.length 0 ([], []) ([], []) rfl
  unfold pbl blocksP
  cases h1 : bRun e c.Code c.Code.length 0 ([], []) with
  | inl p =>
    cases h2 : bRun e' c.Code c.Code.length 0 ([], []) with
    | inl q => rw [h1, h2] at h; injection h with h; rw [h]
    | inr q => rw [h1, h2] at h; cases h
  | inr p =>
    cases h2 : bRun e' c.Code c.Code.length 0 ([], []) with
    | inl q => rw [h1, h2] at h; cases h
    | inr q =>
      rw [h1, h2] at h
      injection h with h
      have e1 : p.1.map strip = q.1.map strip := (congrArg Prod.fst h : (stripS p).1 = (stripS q).1)
      have e2 : p.2 = q.2 := (congrArg Prod.snd h : (stripS p).2 = (stripS q).2)
      have e3 : p.1.map pr = q.1.map pr := by
        have := congrArg (List.map pr) e1
        rw [List.map_map, List.map_map] at this
        exact this
      simp only [e2]
      by_cases h0 : q.2.length = 0
      · rw [if_pos h0, if_pos h0]; simp only [mapR, e3]
      · rw [if_neg h0, if_neg h0]
def coreR (m : SModule) (c : SCore) : List SCodePlace × Int × Int :=
  match pbl 0 c with
  | .inl p => ([], p.1, p.2)
  | .inr P => match cRun m c P c.Code.length 0 s0 [] with
    | .inl p => ([], p.1, p.2)
    | .inr p => if p.1.kn = true ∧ p.1.h ≠ bitI c.Result then ([], (c.Code.length : Int), 7) else (p.2 ++ [SCodePlace.mk true (bitI c.Result) []], 0, 0)
theorem cinv0 : CInv ([], []) s0 := ⟨rfl, rfl, rfl, fun x hx => by simp [s0] at hx, by simp [s0]⟩
theorem cRun_len {m : SModule} {c : SCore} {P : List (Int × Bool)} : ∀ (n k : Nat) (s : CSt) (a : List SCodePlace) (q : CSt × List SCodePlace), cRun m c P n k s a = .inr q → q.2.length = a.length + n
  | 0, k, s, a, q, h => by simp only [cRun] at h; injection h with h; subst h; rfl
  | n + 1, k, s, a, q, h => by
    simp only [cRun] at h
    cases hx : cStep m c P (c.Code.getD k SIns.zero) s with
    | inl x => rw [hx] at h; cases h
    | inr s' =>
      rw [hx] at h
      have := cRun_len n (k + 1) s' _ q h
      rw [List.length_append, List.length_cons, List.length_nil] at this; omega

theorem core_s_eq {m : SModule} (hm : MOk m) {k : Nat} (hk : k < m.Cores.length) : M.s_l16Core m (k : Int) = some (coreR m m.Cores[k]) := by
  have hmem := List.getElem_mem hk
  have hn := (hm.core _ hmem).2.2
  unfold M.s_l16Core coreR
  rw [pbl_eq 0 (-1)]
  unfold pbl
  simp only [Int.toNat_natCast, getD_lt hk, inB_nat, hk, decide_true, Bool.and_true, Bool.and_self]
  generalize hc : m.Cores[k] = c at hn hmem ⊢
  rw [blocks_s c hn]
  have hb : ∀ p, blocksP (-1) c = .inl p → p.2 ≠ 0 := fun p h => by
    unfold blocksP at h
    cases hx : bRun (-1) c.Code c.Code.length 0 ([], []) with
    | inl q => rw [hx] at h; injection h with h; subst h; exact bRun_err _ _ _ _ hx
    | inr q =>
      rw [hx] at h
      simp only at h
      split at h
      · cases h
      · injection h with h; subst h
        show (5 : Int) ≠ 0
        decide
  cases hbl : blocksP (-1) c with
  | inl p =>
    have : (p.2 != 0) = true := by rw [bne_iff_ne]; exact hb p hbl
    simp only [Option.getD_some, Option.isSome_some, mapR, this, cond_true]
  | inr b =>
    obtain ⟨Bf, hrun, hbf⟩ : ∃ Bf : BS, bRun (-1) c.Code c.Code.length 0 ([], []) = .inr Bf ∧ Bf.1 = b := by
      unfold blocksP at hbl
      cases hx : bRun (-1) c.Code c.Code.length 0 ([], []) with
      | inl q => rw [hx] at hbl; cases hbl
      | inr q =>
        rw [hx] at hbl
        simp only at hbl
        split at hbl
        · injection hbl with hbl; exact ⟨q, rfl, hbl⟩
        · cases hbl
    have hinv := (bRun_pre c.Code.length 0 ([], []) Bf bInv0 hrun).2
    rw [Nat.zero_add] at hinv
    have hf : Fin_ m c (b.map pr) Bf := ⟨hm, hmem, by rw [← hbf]; rfl, hinv⟩
    obtain ⟨o1', ho⟩ := core_loop_s (e := -1) hf bigN 0 ([], []) s0 b [] (Nat.zero_le _) (by have := bigN_le; omega) bInv0 cinv0 (by rw [Nat.sub_zero]; exact hrun) ⟨rfl, fun j hj => by simp [s0] at hj⟩ rfl
    have ho' : M.s_l16Core_l0 c bigN 0 m.Pages m.Imports m.Cores c.Name c.Params c.Locals c.Result c.Code 0 false [] b [] = _ := ho
    rw [Nat.sub_zero] at ho'
    have hz : ((0 : Int) != 0) = false := by decide
    simp only [Option.getD_some, Option.isSome_some, mapR, hz, cond_false, ho']
    cases hcr : cRun m c (b.map pr) c.Code.length 0 s0 [] with
    | inl p => rfl
    | inr p =>
      have hlen := cRun_len _ _ _ _ _ hcr
      simp only [one_s, Option.getD_some, Option.isSome_some, Bool.not_not, Bool.true_or, Bool.and_self, Bool.and_true, cond_true]
      have hd : decide (p.2.length + ([SCodePlace.mk true (bitI c.Result) []] : List SCodePlace).length ≤ 1073741824) = true := by
        rw [decide_eq_true_eq, hlen]; simp only [List.length_cons, List.length_nil]; omega
      by_cases hq : p.1.kn = true ∧ p.1.h ≠ bitI c.Result
      · have q : (p.1.kn && (p.1.h != bitI c.Result)) = true := by rw [Bool.and_eq_true, bne_iff_ne]; exact hq
        rw [if_pos hq, q]; rfl
      · have q : (p.1.kn && (p.1.h != bitI c.Result)) = false := by rw [Bool.eq_false_iff, ne_eq, Bool.and_eq_true, bne_iff_ne]; exact hq
        rw [if_neg hq, q, hd]; rfl
end M
/-
  ONE STEP of the check, as the program takes it.
-/
set_option linter.unusedVariables false
set_option linter.unusedSimpArgs false
namespace M
open Go.V (inB slB bigN bigN_le)

abbrev RI := Int × List SImport × List SCore × List UInt8 × Int × Int × Bool × List SIns × List SCodeBlock × Int × Int × Bool × List Int × List Int
def stI (m : SModule) (c : SCore) (bl : List SCodeBlock) (s : CSt) : RI := (m.Pages, m.Imports, m.Cores, c.Name, c.Params, c.Locals, c.Result, c.Code, bl, s.nxt, s.h, s.kn, s.op, s.ba)

theorem turn_i {m : SModule} {c : SCore} {P : List (Int × Bool)} {s : CSt} {bl : List SCodeBlock} (hb : bl.map pr = P) (hi : SIn P s) (h0 : s.op.length ≠ 0) (hbl : 0 ≤ baseP s ∧ baseP s ≤ 24) (i : SIns) (ht : i.Op = 27 ∨ i.Op = 28) :
    ∃ y : Int × RI, M.i_checker_turn i m.Pages m.Imports m.Cores c.Name c.Params c.Locals c.Result c.Code bl s.nxt s.h s.kn s.op s.ba = some y ∧ (match cStep m c P i s with
      | .inl x => y.1 = x
      | .inr s' => y = (0, stI m c bl s')) := by
  have hj : s.op.length - 1 < s.op.length := by omega
  obtain ⟨h1, h2⟩ := hi.at_ hj
  have hl : bl.length = P.length := by rw [← hb, List.length_map]
  have er : (bl.getD (s.op.getD (s.op.length - 1) 0).toNat SCodeBlock.zero).Result = (topP P s).2 := by
    unfold topP; rw [← hb, pr_getD]; rfl
  have hin : inB (s.op.getD (s.op.length - 1) 0) bl.length = true := by rw [← h2, inB_nat, decide_eq_true_eq, hl]; exact h1
  have hbit := bitI_le (topP P s).2
  have hsl : slB (0 : Int) ((s.op.length - 1 : Nat) : Int) s.op.length = true := by unfold slB; simp
  have hsl2 : slB (0 : Int) ((s.op.length - 1 : Nat) : Int) s.ba.length = true := by rw [hi.len]; exact hsl
  have hw : Go.IntKind.wrap .i64 (baseP s + bitI (topP P s).2) = baseP s + bitI (topP P s).2 := wrap_i64 (by omega) (by omega)
  have hbase := base_i s (by rw [hi.len]; exact hi.six) m c bl
  unfold cStep
  rw [if_pos ht]
  unfold M.i_checker_turn
  simp only [eta_m, eta_c, hbase, wrap_len h0 hi.six, Int.toNat_natCast, er, bit_i, Option.getD_some, Option.isSome_some, hw, hin, inB_nat, hj, decide_true, Bool.true_or, Bool.and_self, Bool.and_true, cond_true, hsl, hsl2]
  by_cases hc : s.kn = true ∧ s.h ≠ baseP s + bitI (topP P s).2
  · have q : (s.kn && (s.h != baseP s + bitI (topP P s).2)) = true := by rw [Bool.and_eq_true, bne_iff_ne]; exact hc
    rw [if_pos hc, q]
    exact ⟨_, rfl, rfl⟩
  · have q : (s.kn && (s.h != baseP s + bitI (topP P s).2)) = false := by rw [Bool.eq_false_iff, ne_eq, Bool.and_eq_true, bne_iff_ne]; exact hc
    rw [if_neg hc, q, cond_false]
    by_cases h27 : i.Op = 27
    · have q27 : (i.Op == 27) = true := by rw [beq_iff_eq]; exact h27
      rw [if_pos h27, q27, cond_true]
      exact ⟨_, rfl, rfl⟩
    · have q27 : (i.Op == 27) = false := by rw [beq_eq_false_iff_ne]; exact h27
      rw [if_neg h27, q27, cond_false]
      by_cases h24 : 24 < baseP s + bitI (topP P s).2
      · rw [if_pos h24]
        simp only [decide_eq_true h24, cond_true]
        exact ⟨_, rfl, rfl⟩
      · rw [if_neg h24]
        simp only [decide_eq_false h24, cond_false]
        exact ⟨_, rfl, by simp only [stI, hi.len]⟩

theorem step_i {m : SModule} {c : SCore} {P : List (Int × Bool)} {e : Int} {k : Nat} {i : SIns} {B B' : BS} {s : CSt} {bl : List SCodeBlock} (h : At_ m c P e k i B B' s) (hb : bl.map pr = P) :
    ∃ y : Int × RI, M.i_checker_step i m.Pages m.Imports m.Cores c.Name c.Params c.Locals c.Result c.Code bl s.nxt s.h s.kn s.op s.ba = some y ∧ (match cStep m c P i s with
      | .inl x => y.1 = x
      | .inr s' => y = (0, stI m c bl s')) := by
  obtain ⟨hi, hle⟩ := h.sin
  obtain ⟨hop, hA⟩ := h.op
  have hbl := baseP_le h.cinv
  unfold M.i_checker_step
  simp only [eta_m, eta_c]
  by_cases ht : i.Op = 27 ∨ i.Op = 28
  · have h0 := h.open_ ht
    have qt : (i.Op == 27 || i.Op == 28) = true := by rw [Bool.or_eq_true, beq_iff_eq, beq_iff_eq]; exact ht
    obtain ⟨y, hy, hc⟩ := turn_i (m := m) (c := c) hb hi h0 hbl i ht
    rw [qt, cond_true, hy]
    exact ⟨y, rfl, hc⟩
  · have qt : (i.Op == 27 || i.Op == 28) = false := by rw [Bool.eq_false_iff, ne_eq, Bool.or_eq_true, beq_iff_eq, beq_iff_eq]; exact ht
    have hcore := h.mok.core c h.core
    unfold cStep
    rw [if_neg ht, qt, cond_false]
    by_cases hkn : s.kn = false
    · rw [if_pos hkn, hkn]
      exact ⟨_, rfl, rfl⟩
    · have hkn' : s.kn = true := by simpa using hkn
      rw [if_neg hkn]
      simp only [exists_i m c bl i s hcore.1 hcore.2.1 hop, Option.getD_some, Option.isSome_some, Bool.and_self, Bool.true_and, cond_true]
      rw [show (!s.kn) = false by rw [hkn']; rfl, cond_false]
      by_cases hth : thereP m c i s = false
      · rw [if_pos hth, hth]
        exact ⟨_, rfl, rfl⟩
      · have hth' : thereP m c i s = true := by simpa using hth
        rw [if_neg hth, hth']
        have htk := takeP_le h.mok i
        have hst := h.cinv.h
        simp only [Bool.not_true, cond_false, effect_i m c bl i s hop hA ⟨fun q => ht (.inl q), fun q => ht (.inr q)⟩ hth', base_i s (by rw [hi.len]; exact hi.six) m c bl, carried_i h.pin hb hi i hA hth', Option.getD_some, Option.isSome_some, Bool.and_self, Bool.true_and, cond_true]
        have w1 : Go.IntKind.wrap .i64 (s.h - (takeP m i).1) = s.h - (takeP m i).1 := wrap_i64 (by omega) (by omega)
        have w2 : Go.IntKind.wrap .i64 (s.h - (takeP m i).1 + (takeP m i).2) = s.h - (takeP m i).1 + (takeP m i).2 := wrap_i64 (by omega) (by omega)
        rw [w1, w2]
        by_cases hbs : s.h - (takeP m i).1 < baseP s
        · rw [if_pos hbs, decide_eq_true hbs]
          exact ⟨_, rfl, rfl⟩
        · rw [if_neg hbs, decide_eq_false hbs, cond_false]
          by_cases h24 : 24 < s.h - (takeP m i).1 + (takeP m i).2
          · rw [if_pos h24, decide_eq_true h24]
            exact ⟨_, rfl, rfl⟩
          · rw [if_neg h24, decide_eq_false h24, cond_false]
            have hnb : 0 ≤ needP c P i s ∧ needP c P i s ≤ 1 := by
              unfold needP
              repeat' split
              · exact bitI_le _
              · exact bitI_le _
              · exact bitI_le _
              · omega
            have w3 : Go.IntKind.wrap .i64 (s.h - (takeP m i).1 + (takeP m i).2 - needP c P i s) = s.h - (takeP m i).1 + (takeP m i).2 - needP c P i s := wrap_i64 (by omega) (by omega)
            rw [w3]
            by_cases hnd : s.h - (takeP m i).1 + (takeP m i).2 - needP c P i s < baseP s
            · rw [if_pos hnd, decide_eq_true hnd]
              exact ⟨_, rfl, rfl⟩
            · rw [if_neg hnd, decide_eq_false hnd, cond_false]
              rw [show (i.Op == 24 || i.Op == 25 || i.Op == 26) = opnB i.Op from rfl]
              have hk3 : ((i.Op != 29 && i.Op != 31) && i.Op != 40) = !(i.Op == 29 || i.Op == 31 || i.Op == 40) := by
                rw [bne_not', bne_not', bne_not']
                cases (i.Op == 29) <;> cases (i.Op == 31) <;> cases (i.Op == 40) <;> rfl
              have h6 := hi.six
              by_cases ho : opnB i.Op = true
              · have hcnt := h.binv.cnt
                have hnx : Go.IntKind.wrap .i64 (s.nxt + 1) = s.nxt + 1 := by
                  rw [h.cinv.nxt]
                  have := h.hk; have := hcore.2.2
                  exact wrap_i64 (by omega) (by omega)
                have d1 : decide (s.ba.length + 1 ≤ 1073741824) = true := by rw [decide_eq_true_eq, hi.len]; omega
                have d2 : decide (s.op.length + 1 ≤ 1073741824) = true := by rw [decide_eq_true_eq]; omega
                simp only [ho, cond_true, hnx, hk3, List.length_cons, List.length_nil, Nat.zero_add, d1, d2, Bool.and_self, if_true]
                exact ⟨_, rfl, rfl⟩
              · have ho' : opnB i.Op = false := by simpa using ho
                simp only [ho', cond_false, hk3, Bool.false_eq_true, if_false]
                exact ⟨_, rfl, rfl⟩
end M
/-
  THE BLOCKS of a core, as the program finds them.
-/
set_option linter.unusedVariables false
set_option linter.unusedSimpArgs false
namespace M
open Go.V (inB slB bigN bigN_le)
theorem wz : Go.IntKind.wrap .i64 (((0 : Nat) : Int) - 1) = -1 := by rw [wrap_i64 (by omega) (by omega)]; rfl
theorem wz2 : Go.IntKind.wrap .i64 (-1) = -1 := wrap_i64 (by omega) (by omega)
theorem blocks_loop_i (c : SCore) (hn : c.Code.length ≤ 120) : ∀ (f k : Nat) (s : BS), k ≤ c.Code.length → c.Code.length - k < f → BInv k s →
    M.i_blocksOf_l0 c.Code (c.Code.length : Int) c f (k : Int) s.1 s.2 = some (match bRun 0 c.Code (c.Code.length - k) k s with
      | .inl p => .inl (p.1, p.2, [])
      | .inr s' => .inr (c, s'.1, s'.2))
  | 0, k, s, h1, h2, _ => by omega
  | f + 1, k, s, h1, h2, hI => by
    rw [M.i_blocksOf_l0]
    rcases Nat.lt_or_ge k c.Code.length with hk | hk
    · obtain ⟨r, hr⟩ : ∃ r, c.Code.length - k = r + 1 := ⟨c.Code.length - k - 1, by omega⟩
      have hr' : c.Code.length - (k + 1) = r := by omega
      have ih := fun s' h => blocks_loop_i c hn f (k + 1) s' (by omega) (by omega) h
      rw [hr'] at ih
      rw [hr]
      simp only [bRun]
      have hinv := fun s' h => bStep_inv (e := 0) (c := c.Code) (i := c.Code.getD k SIns.zero) (s' := s') hI h
      have hw : Go.IntKind.wrap .i64 ((k : Int) + 1) = ((k + 1 : Nat) : Int) := wrapk hk (by omega)
      have h6 := hI.six
      have hcnt := hI.cnt
      simp only [Int.toNat_natCast, inB_nat, Int.ofNat_lt, hk, decide_true, cond_true, Bool.and_true, hw]
      generalize hi : c.Code.getD k SIns.zero = i at hinv ⊢
      rw [show (i.Op == 24 || i.Op == 25 || i.Op == 26) = opnB i.Op from rfl]
      by_cases ho : opnB i.Op = true
      · rw [ho, cond_true]
        by_cases hl : s.2.length = 6
        · have hb : bStep 0 c.Code k i s = .inl 4 := by unfold bStep; rw [if_pos ho, if_pos hl]
          rw [hb, hl]; rfl
        · have hb : bStep 0 c.Code k i s = .inr (s.1 ++ [SCodeBlock.mk (k : Int) (-1) 0 0 (i.A == 1)], s.2 ++ [(s.1.length : Int)]) := by unfold bStep; rw [if_pos ho, if_neg hl]
          have q : (((s.2.length : Nat) : Int) == 6) = false := by rw [beq_eq_false_iff_ne]; omega
          have d1 : decide (s.1.length + 1 ≤ 1073741824) = true := by rw [decide_eq_true_eq]; omega
          have d2 : decide (s.2.length + 1 ≤ 1073741824) = true := by rw [decide_eq_true_eq]; omega
          have := ih _ (hinv _ hb)
          simp only [q, cond_false, List.length_cons, List.length_nil, Nat.zero_add, d1, d2, Bool.and_self, cond_true]
          rw [hb]
          exact this
      · have ho' : opnB i.Op = false := by simpa using ho
        rw [ho', cond_false]
        by_cases h27 : i.Op = 27
        · have b27 : (i.Op == 27) = true := by rw [h27]; rfl
          rw [b27, cond_true]
          by_cases h0 : s.2.length = 0
          · have hb : bStep 0 c.Code k i s = .inl 5 := by unfold bStep; rw [if_neg ho, if_pos h27, if_pos h0]
            rw [hb, h0]
            simp [wz2]
          · have ht := topI_lt hI h0
            have hat := topB_at hI h0
            have q : decide (((s.2.length - 1 : Nat) : Int) < 0) = false := by rw [decide_eq_false_iff_not]; omega
            have e1 := ht.2.symm
            have hA : inB (topB s).At c.Code.length = true := inB_int ⟨hat.1, by omega⟩
            have hS : s.2.length - 1 < s.2.length := by omega
            simp only [wrap_len h0 h6, q, Bool.false_or, Int.toNat_natCast, e1, inB_nat, ht.1, hS, decide_true]
            rw [show List.getD s.1 (topI s) SCodeBlock.zero = topB s from rfl, show (List.getD c.Code (Int.toNat (topB s).At) SIns.zero).Op = opAt c.Code (topB s).At from rfl, hA]
            by_cases hc : opAt c.Code (topB s).At ≠ 26 ∨ 0 ≤ (topB s).Else
            · have hb : bStep 0 c.Code k i s = .inl 5 := by unfold bStep; rw [if_neg ho, if_pos h27, if_neg h0, if_pos hc]
              have hq : ((opAt c.Code (topB s).At != 26) || decide (0 ≤ (topB s).Else)) = true := by rw [Bool.or_eq_true, bne_iff_ne, decide_eq_true_eq]; exact hc
              rw [hb, hq]; simp
            · have hb : bStep 0 c.Code k i s = .inr (s.1.set (topI s) (SCodeBlock.mk (topB s).At (k : Int) (topB s).End (topB s).Height (topB s).Result), s.2) := by unfold bStep; rw [if_neg ho, if_pos h27, if_neg h0, if_neg hc]
              have hq : ((opAt c.Code (topB s).At != 26) || decide (0 ≤ (topB s).Else)) = false := by
                rw [Bool.eq_false_iff, ne_eq, Bool.or_eq_true, bne_iff_ne, decide_eq_true_eq]; exact hc
              have := ih _ (hinv _ hb)
              rw [hb, hq]
              simp only [cond_false, Bool.true_or, Bool.and_self, cond_true]
              exact this
        · have b27 : (i.Op == 27) = false := by rw [beq_eq_false_iff_ne]; exact h27
          rw [b27, cond_false]
          by_cases h28 : i.Op = 28
          · have b28 : (i.Op == 28) = true := by rw [h28]; rfl
            rw [b28, cond_true]
            by_cases h0 : s.2.length = 0
            · have hb : bStep 0 c.Code k i s = .inl 5 := by unfold bStep; rw [if_neg ho, if_neg h27, if_pos h28, if_pos h0]
              rw [hb, h0, wz]; rfl
            · have ht := topI_lt hI h0
              have hat := topB_at hI h0
              have q : decide (((s.2.length - 1 : Nat) : Int) < 0) = false := by rw [decide_eq_false_iff_not]; omega
              have e1 := ht.2.symm
              have hA : inB (topB s).At c.Code.length = true := inB_int ⟨hat.1, by omega⟩
              have hS : s.2.length - 1 < s.2.length := by omega
              have hsl : slB (0 : Int) ((s.2.length - 1 : Nat) : Int) s.2.length = true := by unfold slB; simp
              simp only [wrap_len h0 h6, q, cond_false, Int.toNat_natCast, e1, inB_nat, ht.1, hS, decide_true, hsl]
              rw [show List.getD s.1 (topI s) SCodeBlock.zero = topB s from rfl, show (List.getD c.Code (Int.toNat (topB s).At) SIns.zero).Op = opAt c.Code (topB s).At from rfl, hA]
              by_cases hc : (opAt c.Code (topB s).At = 26 ∧ (topB s).Result = true) ∧ (topB s).Else < 0
              · have hb : bStep 0 c.Code k i s = .inl 7 := by unfold bStep; rw [if_neg ho, if_neg h27, if_pos h28, if_neg h0, if_pos hc]
                have hq : (((opAt c.Code (topB s).At == 26) && (topB s).Result) && decide ((topB s).Else < 0)) = true := by rw [Bool.and_eq_true, Bool.and_eq_true, beq_iff_eq, decide_eq_true_eq]; exact hc
                rw [hb, hq]; rfl
              · have hb : bStep 0 c.Code k i s = .inr (s.1.set (topI s) (SCodeBlock.mk (topB s).At (topB s).Else (k : Int) (topB s).Height (topB s).Result), s.2.take (s.2.length - 1)) := by unfold bStep; rw [if_neg ho, if_neg h27, if_pos h28, if_neg h0, if_neg hc]
                have hq : (((opAt c.Code (topB s).At == 26) && (topB s).Result) && decide ((topB s).Else < 0)) = false := by rw [Bool.eq_false_iff, ne_eq, Bool.and_eq_true, Bool.and_eq_true, beq_iff_eq, decide_eq_true_eq]; exact hc
                have := ih _ (hinv _ hb)
                rw [hb, hq]
                simp only [cond_false, Bool.and_self, cond_true]
                exact this
          · have b28 : (i.Op == 28) = false := by rw [beq_eq_false_iff_ne]; exact h28
            have hb : bStep 0 c.Code k i s = .inr s := by unfold bStep; rw [if_neg ho, if_neg h27, if_neg h28]
            have := ih _ (hinv _ hb)
            rw [b28, cond_false, hb]
            exact this
    · have : k = c.Code.length := by omega
      subst this
      simp [bRun]
theorem blocks_i (c : SCore) (hn : c.Code.length ≤ 120) : M.i_blocksOf c = some (match blocksP 0 c with
    | .inl p => ([], p.1, p.2)
    | .inr b => (b, 0, 0)) := by
  unfold M.i_blocksOf blocksP
  have e := blocks_loop_i c hn bigN 0 ([], []) (Nat.zero_le _) (by have := bigN_le; omega) bInv0
  have e' : M.i_blocksOf_l0 c.Code (c.Code.length : Int) c bigN 0 [] [] = _ := e
  rw [e', Nat.sub_zero]
  cases h : bRun 0 c.Code c.Code.length 0 ([], []) with
  | inl p => rfl
  | inr s =>
    simp only
    by_cases h0 : s.2.length = 0
    · rw [if_pos h0, h0]; rfl
    · rw [if_neg h0]
      have : decide ((0 : Int) < ((s.2.length : Nat) : Int)) = true := by rw [decide_eq_true_eq]; omega
      rw [this]; rfl
end M
/-
  THE CHECK of a core, as the program runs it.
-/
set_option linter.unusedVariables false
set_option linter.unusedSimpArgs false
namespace M
open Go.V (inB slB bigN bigN_le)

theorem place_i (m : SModule) (c : SCore) (s : CSt) (bl : List SCodeBlock) (h6 : s.op.length ≤ 6) : M.i_checker_place m.Pages m.Imports m.Cores c.Name c.Params c.Locals c.Result c.Code bl s.nxt s.h s.kn s.op s.ba = some (placeP s, stI m c bl s) := by
  have hown : M.slices_Clone_int64_int64 s.op = some s.op := by
    unfold M.slices_Clone_int64_int64
    rw [show decide (s.op.length ≤ 1099511627776) = true by rw [decide_eq_true_eq]; omega]
    rfl
  unfold M.i_checker_place placeP stI
  rw [hown]
  cases s.kn <;> rfl

theorem core_loop_i {m : SModule} {c : SCore} {P : List (Int × Bool)} {Bf : BS} {e : Int} (hf : Fin_ m c P Bf) {bl : List SCodeBlock} (hbl : bl.map pr = P) : ∀ (f k : Nat) (B : BS) (s : CSt) (out : List SCodePlace), k ≤ c.Code.length → c.Code.length - k < f → BInv k B → CInv B s → bRun e c.Code (c.Code.length - k) k B = .inr Bf → out.length = k →
    M.i_checked_l0 bl c.Code (c.Code.length : Int) c f (k : Int) m.Pages m.Imports m.Cores c.Name c.Params c.Locals c.Result c.Code bl s.nxt s.h s.kn out s.op s.ba = some (match cRun m c P (c.Code.length - k) k s out with
      | .inl p => .inl (p.1, p.2, [], [])
      | .inr p => .inr (bl, c, m.Pages, m.Imports, m.Cores, c.Name, c.Params, c.Locals, c.Result, c.Code, bl, p.1.nxt, p.1.h, p.1.kn, p.2, p.1.op, p.1.ba))
  | 0, k, B, s, out, h1, h2, _, _, _, _ => by omega
  | f + 1, k, B, s, out, h1, h2, hB, hs, hb, hl => by
    have hn := (hf.mok.core c hf.core).2.2
    rcases Nat.lt_or_ge k c.Code.length with hk | hk
    · obtain ⟨r, hrn⟩ : ∃ r, c.Code.length - k = r + 1 := ⟨c.Code.length - k - 1, by omega⟩
      have hr' : c.Code.length - (k + 1) = r := by omega
      rw [hrn] at hb ⊢
      simp only [bRun] at hb
      cases hx : bStep e c.Code k (c.Code.getD k SIns.zero) B with
      | inl x => rw [hx] at hb; cases hb
      | inr B' =>
        rw [hx] at hb
        simp only at hb
        have hat := hf.at_ hk hB hs hx hb
        obtain ⟨y, hy, hc⟩ := step_i hat hbl
        have h6 : s.op.length ≤ 6 := by rw [hs.op]; exact hB.six
        rw [M.i_checked_l0]
        have hw : Go.IntKind.wrap .i64 ((k : Int) + 1) = ((k + 1 : Nat) : Int) := wrapk hk (by omega)
        have hd : decide (out.length + ([placeP s] : List SCodePlace).length ≤ 1073741824) = true := by rw [decide_eq_true_eq, hl, List.length_cons, List.length_nil]; omega
        simp only [Int.ofNat_lt, hk, decide_true, cond_true, place_i m c s bl h6, Option.getD_some, stI, Int.toNat_natCast, hy, inB_nat, Option.isSome_some, Bool.and_true, Bool.and_self, hd, hw, cRun]
        cases hcs : cStep m c P (c.Code.getD k SIns.zero) s with
        | inl x =>
          rw [hcs] at hc
          simp only at hc
          have : (y.1 != 0) = true := by rw [bne_iff_ne, hc]; exact cStep_err hcs
          rw [this, hc]; rfl
        | inr s' =>
          rw [hcs] at hc
          simp only at hc
          subst hc
          have hz : (((0 : Int) != 0)) = false := by decide
          have ho2 := core_loop_i hf hbl f (k + 1) B' s' (out ++ [placeP s]) (by omega) (by omega) (bStep_inv hB hx) (cStep_inv hf.mok hs hx hcs) (by rw [hr']; exact hb) (by rw [List.length_append, hl]; rfl)
          rw [hr'] at ho2
          simp only [hz, cond_false, stI]
          exact ho2
    · have : k = c.Code.length := by omega
      subst this
      rw [M.i_checked_l0]
      simp [cRun]

theorem core_i_eq {m : SModule} (hm : MOk m) {k : Nat} (hk : k < m.Cores.length) : ∃ bl, M.i_checked m (k : Int) = some ((coreR m m.Cores[k]).1, bl, (coreR m m.Cores[k]).2) := by
  have hmem := List.getElem_mem hk
  have hn := (hm.core _ hmem).2.2
  unfold M.i_checked coreR pbl
  simp only [Int.toNat_natCast, getD_lt hk, inB_nat, hk, decide_true, Bool.and_true, Bool.and_self]
  generalize hc : m.Cores[k] = c at hn hmem ⊢
  rw [blocks_i c hn]
  have hb : ∀ p, blocksP 0 c = .inl p → p.2 ≠ 0 := fun p h => by
    unfold blocksP at h
    cases hx : bRun 0 c.Code c.Code.length 0 ([], []) with
    | inl q => rw [hx] at h; injection h with h; subst h; exact bRun_err _ _ _ _ hx
    | inr q =>
      rw [hx] at h
      simp only at h
      split at h
      · cases h
      · injection h with h; subst h
        show (5 : Int) ≠ 0
        decide
  cases hbl : blocksP 0 c with
  | inl p =>
    have : (p.2 != 0) = true := by rw [bne_iff_ne]; exact hb p hbl
    simp only [Option.getD_some, Option.isSome_some, mapR, this, cond_true]
    exact ⟨_, rfl⟩
  | inr b =>
    obtain ⟨Bf, hrun, hbf⟩ : ∃ Bf : BS, bRun 0 c.Code c.Code.length 0 ([], []) = .inr Bf ∧ Bf.1 = b := by
      unfold blocksP at hbl
      cases hx : bRun 0 c.Code c.Code.length 0 ([], []) with
      | inl q => rw [hx] at hbl; cases hbl
      | inr q =>
        rw [hx] at hbl
        simp only at hbl
        split at hbl
        · injection hbl with hbl; exact ⟨q, rfl, hbl⟩
        · cases hbl
    have hinv := (bRun_pre c.Code.length 0 ([], []) Bf bInv0 hrun).2
    rw [Nat.zero_add] at hinv
    have hf : Fin_ m c (b.map pr) Bf := ⟨hm, hmem, by rw [← hbf]; rfl, hinv⟩
    have ho := core_loop_i (e := 0) hf (bl := b) rfl bigN 0 ([], []) s0 [] (Nat.zero_le _) (by have := bigN_le; omega) bInv0 cinv0 (by rw [Nat.sub_zero]; exact hrun) rfl
    have ho' : M.i_checked_l0 b c.Code (c.Code.length : Int) c bigN 0 m.Pages m.Imports m.Cores c.Name c.Params c.Locals c.Result c.Code b 0 0 true [] [] [] = _ := ho
    rw [Nat.sub_zero] at ho'
    have hz : ((0 : Int) != 0) = false := by decide
    simp only [Option.getD_some, Option.isSome_some, mapR, hz, cond_false, ho']
    cases hcr : cRun m c (b.map pr) c.Code.length 0 s0 [] with
    | inl p => exact ⟨_, rfl⟩
    | inr p =>
      have hlen := cRun_len _ _ _ _ _ hcr
      simp only [bit_i, Option.getD_some, Option.isSome_some, Bool.true_or, Bool.and_self, Bool.and_true, cond_true]
      have hd : decide (p.2.length + ([SCodePlace.mk true (bitI c.Result) []] : List SCodePlace).length ≤ 1073741824) = true := by
        rw [decide_eq_true_eq, hlen]; simp only [List.length_cons, List.length_nil]; omega
      by_cases hq : p.1.kn = true ∧ p.1.h ≠ bitI c.Result
      · have q : (p.1.kn && (p.1.h != bitI c.Result)) = true := by rw [Bool.and_eq_true, bne_iff_ne]; exact hq
        rw [if_pos hq, q]; exact ⟨_, rfl⟩
      · have q : (p.1.kn && (p.1.h != bitI c.Result)) = false := by rw [Bool.eq_false_iff, ne_eq, Bool.and_eq_true, bne_iff_ne]; exact hq
        rw [if_neg hq, q, hd]; exact ⟨_, rfl⟩
end M
/-
  THE SHAPE of a module, as both ask it.
-/
set_option linter.unusedVariables false
set_option linter.unusedSimpArgs false
namespace M
open Go.V (inB slB bigN bigN_le)

def chB (c : UInt8) : Bool := ((((decide ((97 : Int) ≤ ((c.toNat : Nat) : Int)) && decide (((c.toNat : Nat) : Int) ≤ 122)) || (decide ((48 : Int) ≤ ((c.toNat : Nat) : Int)) && decide (((c.toNat : Nat) : Int) ≤ 57))) || (((c.toNat : Nat) : Int) == 45)) || (((c.toNat : Nat) : Int) == 46)) || (((c.toNat : Nat) : Int) == 47)
def wOk (s : List UInt8) : Bool := s.all chB && (decide (1 ≤ s.length) && decide (s.length ≤ 40))
theorem idx3 (c : UInt8) : decide (M.idxByte [(45 : UInt8), (46 : UInt8), (47 : UInt8)] ((c.toNat : Nat) : Int) < 0) = !(((((c.toNat : Nat) : Int) == 45) || (((c.toNat : Nat) : Int) == 46)) || (((c.toNat : Nat) : Int) == 47)) := by
  have e : ((c.toNat : Nat) : Int).toNat.toUInt8 = c := by rw [Int.toNat_natCast]; exact UInt8.ofNat_toNat
  unfold M.idxByte
  rw [e]
  have h : ∀ (n : UInt8), (n == c) = (((c.toNat : Nat) : Int) == ((n.toNat : Nat) : Int)) := fun n => by
    rw [Bool.eq_iff_iff, beq_iff_eq, beq_iff_eq]
    constructor
    · rintro rfl; rfl
    · intro h; exact UInt8.toNat_inj.1 (by omega)
  unfold Go.Lib.indexByte Go.Lib.indexByte Go.Lib.indexByte Go.Lib.indexByte
  rw [h 45, h 46, h 47]
  have n1 : (((45 : UInt8).toNat : Nat) : Int) = 45 := rfl
  have n2 : (((46 : UInt8).toNat : Nat) : Int) = 46 := rfl
  have n3 : (((47 : UInt8).toNat : Nat) : Int) = 47 := rfl
  rw [n1, n2, n3]
  cases (((c.toNat : Nat) : Int) == 45) <;> cases (((c.toNat : Nat) : Int) == 46) <;> cases (((c.toNat : Nat) : Int) == 47) <;> rfl
theorem len40 (s : List UInt8) : (decide ((1 : Int) ≤ ((s.length : Nat) : Int)) && decide (((s.length : Nat) : Int) ≤ 40)) = (decide (1 ≤ s.length) && decide (s.length ≤ 40)) := by
  congr 1 <;> simp only [decide_eq_decide] <;> omega
theorem word_s (s : List UInt8) (h : s.length ≤ 1048576) : M.s_l15Word s = some (wOk s) := by
  have e := all_list (p := chB) (F := M.s_l15Word_l0 s) (e := s) (b := false) s (by omega) (fun f k hk => by
    rw [M.s_l15Word_l0]
    simp only [getD_lt hk, Int.toNat_natCast, inB_nat, Int.ofNat_lt, hk, decide_true, cond_true, Bool.and_true, wrapk hk (by omega : s.length < 2 ^ 62)]
    rw [show chB s[k] = (((((decide ((97 : Int) ≤ ((s[k].toNat : Nat) : Int)) && decide (((s[k].toNat : Nat) : Int) ≤ 122)) || (decide ((48 : Int) ≤ ((s[k].toNat : Nat) : Int)) && decide (((s[k].toNat : Nat) : Int) ≤ 57))) || (((s[k].toNat : Nat) : Int) == 45)) || (((s[k].toNat : Nat) : Int) == 46)) || (((s[k].toNat : Nat) : Int) == 47)) from rfl]
    generalize (((((decide ((97 : Int) ≤ ((s[k].toNat : Nat) : Int)) && decide (((s[k].toNat : Nat) : Int) ≤ 122)) || (decide ((48 : Int) ≤ ((s[k].toNat : Nat) : Int)) && decide (((s[k].toNat : Nat) : Int) ≤ 57))) || (((s[k].toNat : Nat) : Int) == 45)) || (((s[k].toNat : Nat) : Int) == 46)) || (((s[k].toNat : Nat) : Int) == 47)) = b
    cases b <;> rfl) (fun f => by rw [M.s_l15Word_l0]; simp)
  unfold M.s_l15Word wOk
  rw [e]
  cases s.all chB
  · rfl
  · rw [if_pos rfl]; simp only [len40, Bool.true_and]
theorem word_i (s : List UInt8) (h : s.length ≤ 1048576) : M.i_WordOk s = some (wOk s) := by
  have e := all_list (p := chB) (F := M.i_WordOk_l0 s (s.length : Int)) (e := s) (b := false) s (by omega) (fun f k hk => by
    rw [M.i_WordOk_l0]
    simp only [getD_lt hk, Int.toNat_natCast, inB_nat, Int.ofNat_lt, hk, decide_true, cond_true, Bool.and_true, Bool.true_or, wrapk hk (by omega : s.length < 2 ^ 62), idx3]
    unfold chB
    generalize (decide ((97 : Int) ≤ ((s[k].toNat : Nat) : Int)) && decide (((s[k].toNat : Nat) : Int) ≤ 122)) = b1
    generalize (decide ((48 : Int) ≤ ((s[k].toNat : Nat) : Int)) && decide (((s[k].toNat : Nat) : Int) ≤ 57)) = b2
    cases b1 <;> cases b2 <;> cases (((s[k].toNat : Nat) : Int) == 45) <;> cases (((s[k].toNat : Nat) : Int) == 46) <;> cases (((s[k].toNat : Nat) : Int) == 47) <;> rfl) (fun f => by rw [M.i_WordOk_l0]; simp)
  unfold M.i_WordOk wOk
  rw [e]
  cases s.all chB
  · rfl
  · rw [if_pos rfl]; simp only [len40, Bool.true_and]

/-! ### instructions, cores -/

theorem bifs7 {b c : Bool} : (bif b then b else c) = (b || c) := by cases b <;> rfl
theorem operand_some (op : Int) : ∃ y, M.i_operandOf op = some y ∧ (op ≠ 1 → 0 ≤ y.1 ∧ y.2.1 ≤ 4096) := by
  unfold M.i_operandOf
  simp only [bifs7]
  simp only [ite_b]
  by_cases h1 : (op == 1) = true
  · rw [if_pos h1]; exact ⟨_, rfl, fun h => absurd (by simpa using h1) h⟩
  rw [if_neg h1]
  repeat' split
  all_goals
    refine ⟨_, rfl, fun _ => ?_⟩
    constructor <;> simp
noncomputable def insB (i : SIns) : Bool := (M.i_InsOk i).getD false
theorem ins_i (i : SIns) : M.i_InsOk i = some (insB i) ∧ M.s_l15Ins i = some (insB i) := by
  obtain ⟨y, hy, -⟩ := operand_some i.Op
  have e : M.i_InsOk i = some (insB i) := by
    unfold insB M.i_InsOk
    rw [hy]; rfl
  exact ⟨e, e⟩
theorem insB_ok {i : SIns} (h : insB i = true) : (1 ≤ i.Op ∧ i.Op ≤ 40) ∧ (i.Op ≠ 1 → 0 ≤ i.A ∧ i.A ≤ 16777216) := by
  obtain ⟨y, hy, hb⟩ := operand_some i.Op
  unfold insB M.i_InsOk at h
  rw [hy] at h
  simp only [Option.isSome_some, Option.getD_some, Bool.and_self, cond_true, Bool.and_eq_true, decide_eq_true_eq] at h
  refine ⟨h.1, fun h1 => ?_⟩
  have := hb h1
  omega
noncomputable def cOk (c : SCore) : Bool := (((decide ((0 : Int) ≤ c.Params) && decide (c.Params ≤ 8)) && (decide ((0 : Int) ≤ c.Locals) && decide (c.Locals ≤ 8))) && decide (c.Code.length ≤ 120)) && c.Code.all insB
theorem core_i (c : SCore) (h : c.Code.length ≤ 1048576) : M.i_coreOk c = some (cOk c) := by
  have e := find_list (p := fun i => !insB i) (F := M.slices_IndexFunc_Ins_Ins_l0 c.Code (c.Code.length : Int)) (e := ()) (fun k => k) c.Code (by omega) (fun f k hk => by
    rw [M.slices_IndexFunc_Ins_Ins_l0]
    have ec : M.i_coreOk_c1 c.Code[k] = some (!insB c.Code[k]) := by unfold M.i_coreOk_c1; rw [(ins_i _).1]; rfl
    simp only [getD_lt hk, ec, Int.toNat_natCast, inB_nat, Int.ofNat_lt, hk, decide_true, cond_true, Bool.true_and, Bool.and_true, wrapk hk (by omega : c.Code.length < 2 ^ 62), Option.getD_some, Option.isSome_some]) (fun f => by
    rw [M.slices_IndexFunc_Ins_Ins_l0]; simp)
  have e2 : M.slices_ContainsFunc_Ins_Ins c.Code = some (!c.Code.all insB) := by
    unfold M.slices_ContainsFunc_Ins_Ins M.slices_IndexFunc_Ins_Ins
    rw [e, List.not_all_eq_any_not, findIdx_any]
    cases c.Code.findIdx? (fun i => !insB i) <;> simp
  have e3 : decide (((c.Code.length : Nat) : Int) ≤ 120) = decide (c.Code.length ≤ 120) := by simp only [decide_eq_decide]; omega
  unfold M.i_coreOk cOk
  rw [e2, e3]
  simp only [Option.isSome_some, Option.getD_some, Bool.true_or, Bool.and_self, cond_true, Bool.not_not]
theorem core_s (c : SCore) (h : c.Code.length ≤ 1048576) (hn : c.Name.length ≤ 1048576) : M.s_l15Core c = some (wOk c.Name && cOk c) := by
  have e := all_list (p := insB) (F := M.s_l15Core_l0 c) (e := ()) (b := false) c.Code (by omega) (fun f k hk => by
    rw [M.s_l15Core_l0]
    simp only [getD_lt hk, (ins_i _).2, Int.toNat_natCast, inB_nat, Int.ofNat_lt, hk, decide_true, cond_true, Bool.true_and, Bool.and_true, wrapk hk (by omega : c.Code.length < 2 ^ 62), Option.getD_some, Option.isSome_some]
    cases insB c.Code[k] <;> rfl) (fun f => by rw [M.s_l15Core_l0]; simp)
  have e3 : decide ((120 : Int) < ((c.Code.length : Nat) : Int)) = !decide (c.Code.length ≤ 120) := by rw [← decide_not]; simp only [decide_eq_decide]; omega
  unfold M.s_l15Core cOk
  rw [word_s c.Name hn, e, e3]
  simp only [Option.isSome_some, Option.getD_some, Bool.and_self, cond_true]
  generalize (decide ((0 : Int) ≤ c.Params) && decide (c.Params ≤ 8)) = b1
  generalize (decide ((0 : Int) ≤ c.Locals) && decide (c.Locals ≤ 8)) = b2
  generalize decide (c.Code.length ≤ 120) = b3
  cases wOk c.Name <;> cases b1 <;> cases b2 <;> cases b3 <;> cases c.Code.all insB <;> rfl

/-! ### modules -/

def impB (x : SImport) : Bool := decide ((0 : Int) ≤ x.Params) && decide (x.Params ≤ 8)
def namesB (l : List (List UInt8)) : Bool := nodupB l && l.all wOk
noncomputable def mOkB (m : SModule) : Bool := (((decide ((1 : Int) ≤ m.Pages) && decide (m.Pages ≤ 16)) && decide (m.Imports.length ≤ 12)) && decide (m.Cores.length ≤ 8)) && ((m.Imports.all impB && m.Cores.all cOk) && (namesB (m.Imports.map SImport.Name) && namesB (m.Cores.map SCore.Name)))
theorem len12 (n : Nat) : decide ((12 : Int) < ((n : Nat) : Int)) = !decide (n ≤ 12) := by rw [← decide_not]; simp only [decide_eq_decide]; omega
theorem len8 (n : Nat) : decide ((8 : Int) < ((n : Nat) : Int)) = !decide (n ≤ 8) := by rw [← decide_not]; simp only [decide_eq_decide]; omega

theorem importAt (l : List SImport) (name : List UInt8) (h : l.length ≤ 1048576) : ∃ y, M.s_l15ImportAt l name = some y ∧ decide ((0 : Int) ≤ y) = l.any fun x => x.Name == name := by
  have e := find_list (p := fun x : SImport => x.Name == name) (F := M.s_l15ImportAt_l0 l name) (e := ()) (fun k => k) l (by omega) (fun f k hk => by
    rw [M.s_l15ImportAt_l0]
    simp only [getD_lt hk, Int.toNat_natCast, inB_nat, Int.ofNat_lt, hk, decide_true, cond_true, Bool.and_true, wrapk hk (by omega : l.length < 2 ^ 62)]) (fun f => by rw [M.s_l15ImportAt_l0]; simp)
  unfold M.s_l15ImportAt
  rw [e, findIdx_any]
  cases l.findIdx? (fun x : SImport => x.Name == name) with
  | none => exact ⟨_, rfl, rfl⟩
  | some k => exact ⟨_, rfl, by simp⟩
theorem coreAt (l : List SCore) (name : List UInt8) (h : l.length ≤ 1048576) : ∃ y, M.s_l15CoreAt l name = some y ∧ decide ((0 : Int) ≤ y) = l.any fun x => x.Name == name := by
  have e := find_list (p := fun x : SCore => x.Name == name) (F := M.s_l15CoreAt_l0 l name) (e := ()) (fun k => k) l (by omega) (fun f k hk => by
    rw [M.s_l15CoreAt_l0]
    simp only [getD_lt hk, Int.toNat_natCast, inB_nat, Int.ofNat_lt, hk, decide_true, cond_true, Bool.and_true, wrapk hk (by omega : l.length < 2 ^ 62)]) (fun f => by rw [M.s_l15CoreAt_l0]; simp)
  unfold M.s_l15CoreAt
  rw [e, findIdx_any]
  cases l.findIdx? (fun x : SCore => x.Name == name) with
  | none => exact ⟨_, rfl, rfl⟩
  | some k => exact ⟨_, rfl, by simp⟩
theorem slB0 {i n : Nat} (h : i ≤ n) : slB (0 : Int) (i : Int) n = true := by unfold slB; simp; omega

theorem shape_m_s (m : SModule) (h : m.sz ≤ 1048576) : M.s_l15Shape m = some (mOkB m) := by
  rw [SModule.sz_eq] at h
  have hi : m.Imports.length ≤ 1048576 := Nat.le_trans (szL_len SImport.sz _) (by omega)
  have hc : m.Cores.length ≤ 1048576 := Nat.le_trans (szL_len SCore.sz _) (by omega)
  have e0 := all_loop (p := fun i => (wOk (m.Imports.getD i SImport.zero).Name && impB (m.Imports.getD i SImport.zero)) && !((m.Imports.take i).any fun x => x.Name == (m.Imports.getD i SImport.zero).Name)) (F := M.s_l15Shape_l0 m) (e := m) (b := false) m.Imports.length (by omega) (fun f k hk => by
    rw [M.s_l15Shape_l0]
    have hsz := szL_mem SImport.sz _ _ (List.getElem_mem hk)
    have hn : m.Imports[k].Name.length ≤ 1048576 := by rw [SImport.sz_eq] at hsz; omega
    obtain ⟨y, hy, hy2⟩ := importAt (m.Imports.take k) m.Imports[k].Name (by rw [List.length_take]; omega)
    have hd : ∀ l : List SImport, List.drop (Int.toNat (0 : Int)) l = l := fun l => rfl
    simp only [getD_lt hk, Int.toNat_natCast, inB_nat, Int.ofNat_lt, hk, decide_true, cond_true, Bool.and_true, Bool.true_and, hd, hy, hy2, word_s _ hn, Option.getD_some, Option.isSome_some, Bool.true_or, slB0 (Nat.le_of_lt hk), wrapk hk (by omega : m.Imports.length < 2 ^ 62)]
    rw [show impB m.Imports[k] = (decide ((0 : Int) ≤ m.Imports[k].Params) && decide (m.Imports[k].Params ≤ 8)) from rfl]
    generalize (decide ((0 : Int) ≤ m.Imports[k].Params) && decide (m.Imports[k].Params ≤ 8)) = b1
    generalize ((m.Imports.take k).any fun x => x.Name == m.Imports[k].Name) = b2
    cases wOk m.Imports[k].Name <;> cases b1 <;> cases b2 <;> rfl) (fun f => by rw [M.s_l15Shape_l0]; simp)
  have e1 := all_loop (p := fun i => (wOk (m.Cores.getD i SCore.zero).Name && cOk (m.Cores.getD i SCore.zero)) && !((m.Cores.take i).any fun x => x.Name == (m.Cores.getD i SCore.zero).Name)) (F := M.s_l15Shape_l1 m) (e := ()) (b := false) m.Cores.length (by omega) (fun f k hk => by
    rw [M.s_l15Shape_l1]
    have hsz := szL_mem SCore.sz _ _ (List.getElem_mem hk)
    have hn : m.Cores[k].Name.length ≤ 1048576 ∧ m.Cores[k].Code.length ≤ 1048576 := by
      rw [SCore.sz_eq] at hsz
      have := szL_len SIns.sz m.Cores[k].Code
      omega
    obtain ⟨y, hy, hy2⟩ := coreAt (m.Cores.take k) m.Cores[k].Name (by rw [List.length_take]; omega)
    have hd : ∀ l : List SCore, List.drop (Int.toNat (0 : Int)) l = l := fun l => rfl
    simp only [getD_lt hk, Int.toNat_natCast, inB_nat, Int.ofNat_lt, hk, decide_true, cond_true, Bool.and_true, Bool.true_and, hd, hy, hy2, core_s _ hn.2 hn.1, Option.getD_some, Option.isSome_some, Bool.true_or, slB0 (Nat.le_of_lt hk), wrapk hk (by omega : m.Cores.length < 2 ^ 62)]
    generalize ((m.Cores.take k).any fun x => x.Name == m.Cores[k].Name) = b2
    cases wOk m.Cores[k].Name <;> cases cOk m.Cores[k] <;> cases b2 <;> rfl) (fun f => by rw [M.s_l15Shape_l1]; simp)
  rw [all_and5, nodup_take SImport.Name, all_range5 (fun x : SImport => wOk x.Name && impB x), all_and5] at e0
  rw [all_and5, nodup_take SCore.Name, all_range5 (fun x : SCore => wOk x.Name && cOk x), all_and5] at e1
  have w1 : (m.Imports.map SImport.Name).all wOk = m.Imports.all fun x => wOk x.Name := by rw [List.all_map]; rfl
  have w2 : (m.Cores.map SCore.Name).all wOk = m.Cores.all fun x => wOk x.Name := by rw [List.all_map]; rfl
  unfold M.s_l15Shape mOkB namesB
  rw [len12, len8, e0, w1, w2]
  generalize (decide ((1 : Int) ≤ m.Pages) && decide (m.Pages ≤ 16)) = b0
  generalize decide (m.Imports.length ≤ 12) = b1
  generalize decide (m.Cores.length ≤ 8) = b2
  generalize (m.Imports.all fun x => wOk x.Name) = b3
  generalize m.Imports.all impB = b4
  generalize nodupB (m.Imports.map SImport.Name) = b5
  generalize (m.Cores.all fun x => wOk x.Name) = b6 at e1 ⊢
  generalize m.Cores.all cOk = b7 at e1 ⊢
  generalize nodupB (m.Cores.map SCore.Name) = b8 at e1 ⊢
  cases b0
  · rfl
  cases b1
  · rfl
  cases b2
  · rfl
  cases b3 <;> cases b4 <;> cases b5
  all_goals first
    | (cases b6 <;> cases b7 <;> cases b8 <;> rfl)
    | (simp only [Bool.and_self, if_true, Bool.not_true, Bool.or_self, cond_false, Bool.true_and, e1]
       cases b6 <;> cases b7 <;> cases b8 <;> rfl)
end M
/-
  THE SHAPE of a module, as the program asks it; what it tells of the numbers.
-/
set_option linter.unusedVariables false
set_option linter.unusedSimpArgs false
namespace M
open Go.V (inB slB bigN bigN_le)

theorem words_i (l : List (List UInt8)) (hl : l.length ≤ 1048576) (h : ∀ x ∈ l, x.length ≤ 1048576) : M.i_wordsOk l = some (namesB l) := by
  have e := find_list (p := fun s => !wOk s) (F := M.slices_IndexFunc_string_string_l0 l (l.length : Int)) (e := ()) (fun k => k) l (by omega) (fun f k hk => by
    rw [M.slices_IndexFunc_string_string_l0]
    have ec : M.i_wordsOk_c1 l[k] = some (!wOk l[k]) := by unfold M.i_wordsOk_c1; rw [word_i _ (h _ (List.getElem_mem hk))]; rfl
    simp only [getD_lt hk, ec, Int.toNat_natCast, inB_nat, Int.ofNat_lt, hk, decide_true, cond_true, Bool.true_and, Bool.and_true, wrapk hk (by omega : l.length < 2 ^ 62), Option.getD_some, Option.isSome_some]) (fun f => by
    rw [M.slices_IndexFunc_string_string_l0]; simp)
  have e2 : M.slices_ContainsFunc_string_string l = some (!l.all wOk) := by
    unfold M.slices_ContainsFunc_string_string M.slices_IndexFunc_string_string
    rw [e, List.not_all_eq_any_not, findIdx_any]
    cases l.findIdx? (fun i => !wOk i) <;> simp
  unfold M.i_wordsOk namesB
  rw [e2, i_distinct_eq l hl]
  simp only [Option.isSome_some, Option.getD_some, Bool.true_or, Bool.and_self, cond_true, Bool.not_not]
theorem take_nm {α : Type} (nm : α → List UInt8) (l : List α) (k : Nat) (hk : k < l.length) : (l.take k).map nm ++ [nm l[k]] = (l.take (k + 1)).map nm := by
  rw [List.take_add_one, List.map_append, List.getElem?_eq_getElem hk]; rfl

theorem shape_m_i (m : SModule) (h : m.sz ≤ 1048576) : M.i_ModuleShape m = some (mOkB m) := by
  rw [SModule.sz_eq] at h
  have hi : m.Imports.length ≤ 1048576 := Nat.le_trans (szL_len SImport.sz _) (by omega)
  have hc : m.Cores.length ≤ 1048576 := Nat.le_trans (szL_len SCore.sz _) (by omega)
  have k0 : ∀ g k, k ≤ m.Imports.length → m.Imports.length - k < g → M.i_ModuleShape_l0 m.Imports (m.Imports.length : Int) m [] g (k : Int) ((m.Imports.take k).map SImport.Name) = some (if (m.Imports.drop k).all impB then .inr (m, m.Imports.map SImport.Name, []) else .inl false) := by
    intro g
    induction g with
    | zero => intro k h1 h2; omega
    | succ g ih =>
      intro k h1 h2
      rcases Nat.lt_or_ge k m.Imports.length with hk | hk
      · rw [M.i_ModuleShape_l0]
        have hd : decide ((((m.Imports.take k).map SImport.Name).length + ([m.Imports[k].Name] : List (List UInt8)).length) ≤ 1073741824) = true := by
          simp only [decide_eq_true_eq, List.length_map, List.length_take, List.length_cons, List.length_nil]; omega
        simp only [getD_lt hk, Int.toNat_natCast, inB_nat, Int.ofNat_lt, hk, decide_true, cond_true, Bool.true_and, Bool.and_true, wrapk hk (by omega : m.Imports.length < 2 ^ 62), hd, take_nm SImport.Name _ k hk]
        rw [ih (k + 1) (by omega) (by omega), drop_get hk, List.all_cons]
        rw [show impB m.Imports[k] = (decide ((0 : Int) ≤ m.Imports[k].Params) && decide (m.Imports[k].Params ≤ 8)) from rfl]
        cases (decide ((0 : Int) ≤ m.Imports[k].Params) && decide (m.Imports[k].Params ≤ 8)) <;> simp
      · have : k = m.Imports.length := by omega
        subst this
        rw [M.i_ModuleShape_l0]
        simp
  have k1 : ∀ g k, k ≤ m.Cores.length → m.Cores.length - k < g → M.i_ModuleShape_l1 m.Cores (m.Cores.length : Int) (m.Imports.map SImport.Name) g (k : Int) ((m.Cores.take k).map SCore.Name) = some (if (m.Cores.drop k).all cOk then .inr (m.Imports.map SImport.Name, m.Cores.map SCore.Name) else .inl false) := by
    intro g
    induction g with
    | zero => intro k h1 h2; omega
    | succ g ih =>
      intro k h1 h2
      rcases Nat.lt_or_ge k m.Cores.length with hk | hk
      · rw [M.i_ModuleShape_l1]
        have hsz := szL_mem SCore.sz _ _ (List.getElem_mem hk)
        have hn : m.Cores[k].Code.length ≤ 1048576 := by
          rw [SCore.sz_eq] at hsz
          have := szL_len SIns.sz m.Cores[k].Code
          omega
        have hd : decide ((((m.Cores.take k).map SCore.Name).length + ([m.Cores[k].Name] : List (List UInt8)).length) ≤ 1073741824) = true := by
          simp only [decide_eq_true_eq, List.length_map, List.length_take, List.length_cons, List.length_nil]; omega
        simp only [getD_lt hk, core_i _ hn, Option.getD_some, Option.isSome_some, Int.toNat_natCast, inB_nat, Int.ofNat_lt, hk, decide_true, cond_true, Bool.true_and, Bool.and_true, wrapk hk (by omega : m.Cores.length < 2 ^ 62), hd, take_nm SCore.Name _ k hk]
        rw [ih (k + 1) (by omega) (by omega), drop_get hk, List.all_cons]
        cases cOk m.Cores[k] <;> simp
      · have : k = m.Cores.length := by omega
        subst this
        rw [M.i_ModuleShape_l1]
        simp
  have e0 := k0 bigN 0 (Nat.zero_le _) (by have := bigN_le; omega)
  have e0' : M.i_ModuleShape_l0 m.Imports (m.Imports.length : Int) m [] bigN 0 [] = _ := e0
  have e1 := k1 bigN 0 (Nat.zero_le _) (by have := bigN_le; omega)
  have e1' : M.i_ModuleShape_l1 m.Cores (m.Cores.length : Int) (m.Imports.map SImport.Name) bigN 0 [] = _ := e1
  rw [List.drop_zero] at e0' e1'
  have n0 : ∀ x ∈ m.Imports.map SImport.Name, x.length ≤ 1048576 := fun x hx => by
    obtain ⟨y, hy, rfl⟩ := List.mem_map.1 hx
    have := szL_mem SImport.sz _ _ hy
    rw [SImport.sz_eq] at this; omega
  have n1 : ∀ x ∈ m.Cores.map SCore.Name, x.length ≤ 1048576 := fun x hx => by
    obtain ⟨y, hy, rfl⟩ := List.mem_map.1 hx
    have := szL_mem SCore.sz _ _ hy
    rw [SCore.sz_eq] at this; omega
  unfold M.i_ModuleShape mOkB
  rw [len12, len8, e0']
  generalize (decide ((1 : Int) ≤ m.Pages) && decide (m.Pages ≤ 16)) = b0
  generalize decide (m.Imports.length ≤ 12) = b1
  generalize decide (m.Cores.length ≤ 8) = b2
  cases b0
  · rfl
  cases b1
  · rfl
  cases b2
  · rfl
  cases m.Imports.all impB
  · rfl
  · simp only [if_true, Bool.not_true, Bool.or_self, cond_false, e1']
    cases m.Cores.all cOk
    · rfl
    · simp only [if_true, words_i _ (by rw [List.length_map]; exact hi) n0, words_i _ (by rw [List.length_map]; exact hc) n1, Option.getD_some, Option.isSome_some, Bool.true_or, Bool.and_self, cond_true, Bool.true_and]

theorem mOk_of {m : SModule} (h : mOkB m = true) : MOk m := by
  unfold mOkB at h
  simp only [Bool.and_eq_true, decide_eq_true_eq, List.all_eq_true] at h
  obtain ⟨⟨⟨-, hi⟩, hc⟩, ⟨h1, h2⟩, -⟩ := h
  have hcore : ∀ x ∈ m.Cores, ((0 ≤ x.Params ∧ x.Params ≤ 8) ∧ (0 ≤ x.Locals ∧ x.Locals ≤ 8) ∧ x.Code.length ≤ 120) ∧ ∀ i ∈ x.Code, insB i = true := fun x hx => by
    have := h2 x hx
    unfold cOk at this
    simp only [Bool.and_eq_true, decide_eq_true_eq, List.all_eq_true] at this
    exact ⟨⟨this.1.1.1, this.1.1.2, this.1.2⟩, this.2⟩
  refine ⟨hc, hi, fun x hx => ?_, fun x hx => (hcore x hx).1, fun x hx i hi' => insB_ok ((hcore x hx).2 i hi')⟩
  have := h1 x hx
  unfold impB at this
  simpa using this
end M
/-
  THE CHECK of a module: both sides; the laws' own walks come out true.
-/
set_option linter.unusedVariables false
set_option linter.unusedSimpArgs false
namespace M
open Go.V (inB slB bigN bigN_le)
def modR (m : SModule) : Int × Int × Int :=
  match m.Cores.findIdx? (fun c => (coreR m c).2.2 != 0) with
  | some k => ((k : Int), (coreR m (m.Cores.getD k SCore.zero)).2)
  | none => (0, 0, 0)
def gOf (m : SModule) (x : Int) : Int × Int × Int := (x, (coreR m (m.Cores.getD x.toNat SCore.zero)).2)
theorem gOf_nat (m : SModule) (k : Nat) : gOf m (k : Int) = ((k : Int), (coreR m (m.Cores.getD k SCore.zero)).2) := by
  unfold gOf; rw [Int.toNat_natCast]
theorem module_s {m : SModule} (hm : MOk m) : M.s_l16Module_l0 m bigN 0 = some (match m.Cores.findIdx? (fun c => (coreR m c).2.2 != 0) with
      | some k => .inl (gOf m (k : Int))
      | none => .inr ()) :=
  find_list (p := fun c => (coreR m c).2.2 != 0) (F := M.s_l16Module_l0 m) (e := ()) (gOf m) m.Cores (by have := hm.cores; omega) (fun f k hk => by
    rw [M.s_l16Module_l0, gOf_nat]
    have := hm.cores
    simp only [core_s_eq hm hk, getD_lt hk, Int.ofNat_lt, hk, decide_true, cond_true, Option.getD_some, Option.isSome_some, Bool.and_self, wrapk hk (by omega : m.Cores.length < 2 ^ 62)]) (fun f => by rw [M.s_l16Module_l0]; simp)
noncomputable def chkR (m : SModule) : Int × Int × Int := if mOkB m = true then modR m else (0, 0, 1)
theorem l16_s (m : SModule) (h : m.sz ≤ 1048576) : M.s_l16Module m = some (chkR m) := by
  unfold M.s_l16Module chkR
  rw [shape_m_s m h]
  simp only [Option.getD_some, Option.isSome_some, Bool.and_self, cond_true]
  cases hb : mOkB m
  · rfl
  · rw [if_pos rfl, module_s (mOk_of hb)]
    unfold modR
    cases m.Cores.findIdx? (fun c => (coreR m c).2.2 != 0) with
    | none => rfl
    | some k => simp only [Bool.not_true, cond_false, gOf_nat]
/-! ### the highest -/

def maxI (n : Int) (p : SCodePlace) : Int := if p.Height < n then n else p.Height
end M
