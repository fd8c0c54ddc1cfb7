/-
  THE BLOCKS of a core's code, matched, in plain Lean.
-/
import Derived.Test.YtlnailoffdmkiaaGreatXVplA
set_option linter.unusedVariables false
namespace M
open Go.V (inB slB bigN bigN_le)

def opnB (op : Int) : Bool := (op == 24 || op == 25) || op == 26
abbrev BS := List SCodeBlock × List Int
def topI (s : BS) : Nat := (s.2.getD (s.2.length - 1) 0).toNat
def topB (s : BS) : SCodeBlock := s.1.getD (topI s) SCodeBlock.zero
def opAt (c : List SIns) (at_ : Int) : Int := (c.getD at_.toNat SIns.zero).Op
/-- one step of matching; e: what End is at first -/
def bStep (e : Int) (c : List SIns) (k : Nat) (i : SIns) (s : BS) : Int ⊕ BS :=
  if opnB i.Op = true then
    if s.2.length = 6 then .inl 4 else .inr (s.1 ++ [SCodeBlock.mk (k : Int) (-1) e 0 (i.A == 1)], s.2 ++ [(s.1.length : Int)])
  else if i.Op = 27 then
    if s.2.length = 0 then .inl 5
    else if opAt c (topB s).At ≠ 26 ∨ 0 ≤ (topB s).Else then .inl 5
    else .inr (s.1.set (topI s) (SCodeBlock.mk (topB s).At (k : Int) (topB s).End (topB s).Height (topB s).Result), s.2)
  else if i.Op = 28 then
    if s.2.length = 0 then .inl 5
    else if (opAt c (topB s).At = 26 ∧ (topB s).Result = true) ∧ (topB s).Else < 0 then .inl 7
    else .inr (s.1.set (topI s) (SCodeBlock.mk (topB s).At (topB s).Else (k : Int) (topB s).Height (topB s).Result), s.2.take (s.2.length - 1))
  else .inr s
/-- all of it, from place k on -/
def bRun (e : Int) (c : List SIns) : Nat → Nat → BS → (Int × Int) ⊕ BS
  | 0, k, s => .inr s
  | n + 1, k, s => match bStep e c k (c.getD k SIns.zero) s with
    | .inl x => .inl ((k : Int), x)
    | .inr s' => bRun e c n (k + 1) s'

/-! ### what End is at first plays no part -/

def strip (b : SCodeBlock) : SCodeBlock := SCodeBlock.mk b.At b.Else 0 b.Height b.Result
def stripS (s : BS) : BS := (s.1.map strip, s.2)
def mapR {E A B : Type} (f : A → B) : E ⊕ A → E ⊕ B
  | .inl e => .inl e
  | .inr a => .inr (f a)
theorem topI_strip (s : BS) : topI (stripS s) = topI s := rfl
theorem topB_strip (s : BS) : topB (stripS s) = strip (topB s) := by
  unfold topB
  rw [topI_strip]
  simp only [stripS, List.getD_eq_getElem?_getD, List.getElem?_map]
  cases s.1[topI s]? <;> rfl
theorem bStep_strip (e e' : Int) (c : List SIns) (k : Nat) (i : SIns) (s : BS) : mapR stripS (bStep e c k i s) = mapR stripS (bStep e' c k i (stripS s)) := by
  have ht := topB_strip s
  unfold bStep
  rw [topI_strip, ht]
  have h2 : (stripS s).2 = s.2 := rfl
  have hl : (stripS s).1.length = s.1.length := by simp [stripS]
  rw [h2, hl]
  have ha : (strip (topB s)).At = (topB s).At := rfl
  have hb : (strip (topB s)).Else = (topB s).Else := rfl
  have hc : (strip (topB s)).Result = (topB s).Result := rfl
  have hd : (strip (topB s)).Height = (topB s).Height := rfl
  have he : (strip (topB s)).End = 0 := rfl
  rw [ha, hb, hc, hd, he]
  have hm : ∀ b : SCodeBlock, strip (strip b) = strip b := fun b => rfl
  have hmm : ∀ l : List SCodeBlock, (l.map strip).map strip = l.map strip := fun l => by rw [List.map_map]; rfl
  repeat' split
  all_goals first
    | rfl
    | (simp only [mapR, stripS, List.map_append, List.map_set, hmm, List.map_cons, List.map_nil]; try rfl)
theorem bRun_strip (e e' : Int) (c : List SIns) : ∀ (n k : Nat) (s s' : BS), stripS s = stripS s' → mapR stripS (bRun e c n k s) = mapR stripS (bRun e' c n k s')
  | 0, k, s, s', h => by simp only [bRun, mapR, h]
  | n + 1, k, s, s', h => by
    have h1 : mapR stripS (bStep e c k (c.getD k SIns.zero) s) = mapR stripS (bStep e' c k (c.getD k SIns.zero) s') := by
      rw [bStep_strip e e' c k _ s, h, ← bStep_strip e' e' c k _ s']
    simp only [bRun]
    cases hx : bStep e c k (c.getD k SIns.zero) s with
    | inl x =>
      cases hy : bStep e' c k (c.getD k SIns.zero) s' with
      | inl y => rw [hx, hy] at h1; injection h1 with h1; rw [h1]
      | inr y => rw [hx, hy] at h1; cases h1
    | inr x =>
      cases hy : bStep e' c k (c.getD k SIns.zero) s' with
      | inl y => rw [hx, hy] at h1; cases h1
      | inr y =>
        rw [hx, hy] at h1
        injection h1 with h1
        exact bRun_strip e e' c n (k + 1) x y h1

/-! ### where the blocks lie -/

def pr (b : SCodeBlock) : Int × Bool := (b.At, b.Result)
def prS (s : BS) : List (Int × Bool) := s.1.map pr
/-- what holds of the blocks ahead of place k -/
structure BInv (k : Nat) (s : BS) : Prop where
  lt : ∀ x ∈ prS s, 0 ≤ x.1 ∧ x.1 < k
  inc : (prS s).Pairwise fun a b => a.1 < b.1
  opn : ∀ x ∈ s.2, 0 ≤ x ∧ x < s.1.length
  six : s.2.length ≤ 6
  cnt : s.1.length ≤ k
theorem topI_lt {k : Nat} {s : BS} (h : BInv k s) (h0 : s.2.length ≠ 0) : topI s < s.1.length ∧ ((topI s : Nat) : Int) = s.2.getD (s.2.length - 1) 0 := by
  have hm : s.2.getD (s.2.length - 1) 0 ∈ s.2 := by rw [getD_lt (by omega)]; exact List.getElem_mem _
  have := h.opn _ hm
  unfold topI; omega
theorem set_pr (l : List SCodeBlock) (i : Nat) (b : SCodeBlock) (h : pr b = pr (l.getD i SCodeBlock.zero)) : (l.set i b).map pr = l.map pr := by
  rw [List.map_set, h]
  apply List.ext_getElem?
  intro j
  rw [List.getElem?_set]
  split
  · rename_i e; subst e
    split
    · rename_i hl
      rw [List.length_map] at hl
      rw [List.getElem?_map, getD_lt hl, List.getElem?_eq_getElem hl]; rfl
    · rename_i hl
      rw [List.getElem?_eq_none (by omega)]
  · rfl
/-- a step leaves the blocks where they lie, or adds one -/
theorem bStep_pr {e : Int} {c : List SIns} {k : Nat} {i : SIns} {s s' : BS} (h : bStep e c k i s = .inr s') :
    (opnB i.Op = true ∧ s.2.length ≠ 6 ∧ prS s' = prS s ++ [((k : Int), i.A == 1)] ∧ s'.2 = s.2 ++ [(s.1.length : Int)]) ∨
    (opnB i.Op = false ∧ prS s' = prS s ∧ ((i.Op = 27 ∧ s.2.length ≠ 0 ∧ s'.2 = s.2) ∨ (i.Op = 28 ∧ s.2.length ≠ 0 ∧ s'.2 = s.2.take (s.2.length - 1)) ∨ (i.Op ≠ 27 ∧ i.Op ≠ 28 ∧ s'.2 = s.2))) := by
  unfold bStep at h
  by_cases ho : opnB i.Op = true
  · rw [if_pos ho] at h
    by_cases h6 : s.2.length = 6
    · rw [if_pos h6] at h; cases h
    · rw [if_neg h6] at h
      injection h with h; subst h
      refine .inl ⟨ho, h6, ?_, rfl⟩
      simp only [prS, List.map_append, List.map_cons, List.map_nil]; rfl
  · rw [if_neg ho] at h
    have ho' : opnB i.Op = false := by simpa using ho
    refine .inr ⟨ho', ?_⟩
    by_cases h27 : i.Op = 27
    · rw [if_pos h27] at h
      by_cases h0 : s.2.length = 0
      · rw [if_pos h0] at h; cases h
      · rw [if_neg h0] at h
        by_cases hc : opAt c (topB s).At ≠ 26 ∨ 0 ≤ (topB s).Else
        · rw [if_pos hc] at h; cases h
        · rw [if_neg hc] at h
          injection h with h; subst h
          exact ⟨set_pr _ _ _ rfl, .inl ⟨h27, h0, rfl⟩⟩
    · rw [if_neg h27] at h
      by_cases h28 : i.Op = 28
      · rw [if_pos h28] at h
        by_cases h0 : s.2.length = 0
        · rw [if_pos h0] at h; cases h
        · rw [if_neg h0] at h
          by_cases hc : (opAt c (topB s).At = 26 ∧ (topB s).Result = true) ∧ (topB s).Else < 0
          · rw [if_pos hc] at h; cases h
          · rw [if_neg hc] at h
            injection h with h; subst h
            exact ⟨set_pr _ _ _ rfl, .inr (.inl ⟨h28, h0, rfl⟩)⟩
      · rw [if_neg h28] at h
        injection h with h; subst h
        exact ⟨rfl, .inr (.inr ⟨h27, h28, rfl⟩)⟩
theorem bStep_inv {e : Int} {c : List SIns} {k : Nat} {i : SIns} {s s' : BS} (hI : BInv k s) (h : bStep e c k i s = .inr s') : BInv (k + 1) s' := by
  have hlen : ∀ t : BS, (prS t).length = t.1.length := fun t => by simp [prS]
  rcases bStep_pr h with ⟨_, h6, hp, ho⟩ | ⟨_, hp, ho⟩
  · have hl : s'.1.length = s.1.length + 1 := by rw [← hlen s', hp, List.length_append, hlen s]; rfl
    refine ⟨?_, ?_, ?_, ?_, by have := hI.cnt; omega⟩
    · intro x hx
      rw [hp] at hx
      rcases List.mem_append.1 hx with hx | hx
      · have := hI.lt x hx; omega
      · simp only [List.mem_cons, List.not_mem_nil, or_false] at hx; subst hx; simp only; omega
    · rw [hp, List.pairwise_append]
      refine ⟨hI.inc, List.pairwise_singleton _ _, ?_⟩
      intro a ha b hb
      simp only [List.mem_cons, List.not_mem_nil, or_false] at hb; subst hb
      exact (hI.lt a ha).2
    · rw [ho]
      intro x hx
      rcases List.mem_append.1 hx with hx | hx
      · have := hI.opn x hx; omega
      · simp only [List.mem_cons, List.not_mem_nil, or_false] at hx; subst hx; omega
    · rw [ho, List.length_append, List.length_cons, List.length_nil]; have := hI.six; omega
  · have hl : s'.1.length = s.1.length := by rw [← hlen s', hp, hlen s]
    refine ⟨?_, by rw [hp]; exact hI.inc, ?_, ?_, by have := hI.cnt; omega⟩
    · rw [hp]; intro x hx; have := hI.lt x hx; omega
    · rw [hl]
      rcases ho with ⟨_, _, ho⟩ | ⟨_, _, ho⟩ | ⟨_, _, ho⟩ <;> rw [ho]
      · exact hI.opn
      · exact fun x hx => hI.opn x (List.mem_of_mem_take hx)
      · exact hI.opn
    · rcases ho with ⟨_, _, ho⟩ | ⟨_, _, ho⟩ | ⟨_, _, ho⟩ <;> rw [ho]
      · exact hI.six
      · rw [List.length_take]; have := hI.six; omega
      · exact hI.six
theorem bInv0 : BInv 0 ([], []) := ⟨fun x hx => by simp [prS] at hx, by simp [prS], fun x hx => by simp at hx, by simp, by simp⟩
/-- what the whole finds begins with what is found ahead of place k -/
theorem bRun_pre {e : Int} {c : List SIns} : ∀ (n k : Nat) (s B : BS), BInv k s → bRun e c n k s = .inr B → (∃ r, prS B = prS s ++ r) ∧ BInv (k + n) B
  | 0, k, s, B, hI, h => by
    simp only [bRun] at h
    injection h with h; subst h
    exact ⟨⟨[], by simp⟩, hI⟩
  | n + 1, k, s, B, hI, h => by
    simp only [bRun] at h
    cases hx : bStep e c k (c.getD k SIns.zero) s with
    | inl x => rw [hx] at h; cases h
    | inr s' =>
      rw [hx] at h
      obtain ⟨⟨r, hr⟩, hp⟩ := bRun_pre n (k + 1) s' B (bStep_inv hI hx) h
      refine ⟨?_, by rw [show k + (n + 1) = k + 1 + n by omega]; exact hp⟩
      rcases bStep_pr hx with ⟨_, _, hp', _⟩ | ⟨_, hp', _⟩
      · exact ⟨[((k : Int), (c.getD k SIns.zero).A == 1)] ++ r, by rw [hr, hp', List.append_assoc]⟩
      · exact ⟨r, by rw [hr, hp']⟩
/-- the index of the block that lies at k -/
theorem inc_find {L : List (Int × Bool)} (h : L.Pairwise fun a b => a.1 < b.1) {j : Nat} (hj : j < L.length) (p : Int × Bool → Bool) (hp : ∀ x, p x = (x.1 == (L[j]).1)) : L.findIdx? p = some j := by
  rw [List.findIdx?_eq_some_iff_getElem]
  refine ⟨hj, by rw [hp]; simp, ?_⟩
  intro i hi
  have := List.pairwise_iff_getElem.1 h i j (by omega) hj hi
  rw [hp]
  simp only [beq_iff_eq]
  omega
end M
/-
  THE CHECK of a core's code, in plain Lean.
-/
set_option linter.unusedVariables false
namespace M
open Go.V (inB slB bigN bigN_le)

def bitI (b : Bool) : Int := bif b then 1 else 0
theorem bitI_le (b : Bool) : 0 ≤ bitI b ∧ bitI b ≤ 1 := by cases b <;> decide
/-- the state of the scan: how many blocks were opened, the open ones, the heights under them, the height, whether the place is reached -/
structure CSt where
  nxt : Int
  op : List Int
  ba : List Int
  h : Int
  kn : Bool
def baseP (s : CSt) : Int := if s.ba.length = 0 then 0 else s.ba.getD (s.ba.length - 1) 0
def topP (P : List (Int × Bool)) (s : CSt) : Int × Bool := P.getD (s.op.getD (s.op.length - 1) 0).toNat (0, false)
def thereP (m : SModule) (c : SCore) (i : SIns) (s : CSt) : Bool :=
  if i.Op = 2 ∨ i.Op = 3 ∨ i.Op = 4 then decide (i.A < c.Params + c.Locals)
  else if i.Op = 32 then decide (i.A < (m.Cores.length : Int))
  else if i.Op = 33 then decide (i.A < (m.Imports.length : Int))
  else if i.Op = 29 ∨ i.Op = 30 then decide (i.A ≤ (s.op.length : Int)) else true
def takeP (m : SModule) (i : SIns) : Int × Int :=
  if i.Op = 1 ∨ i.Op = 2 then (0, 1)
  else if i.Op = 3 ∨ i.Op = 5 ∨ i.Op = 26 ∨ i.Op = 30 then (1, 0)
  else if i.Op = 4 ∨ i.Op = 22 ∨ i.Op = 34 ∨ i.Op = 35 ∨ i.Op = 36 then (1, 1)
  else if i.Op = 23 then (3, 1)
  else if i.Op = 37 ∨ i.Op = 38 ∨ i.Op = 39 then (2, 0)
  else if i.Op = 32 then ((m.Cores.getD i.A.toNat SCore.zero).Params, bitI (m.Cores.getD i.A.toNat SCore.zero).Result)
  else if i.Op = 33 then ((m.Imports.getD i.A.toNat SImport.zero).Params, bitI (m.Imports.getD i.A.toNat SImport.zero).Result)
  else if i.Op = 24 ∨ i.Op = 25 ∨ i.Op = 29 ∨ i.Op = 31 ∨ i.Op = 40 then (0, 0) else (2, 1)
def needP (c : SCore) (P : List (Int × Bool)) (i : SIns) (s : CSt) : Int :=
  if i.Op = 31 then bitI c.Result
  else if i.Op = 29 ∨ i.Op = 30 then
    if (s.op.length : Int) - 1 - i.A < 0 then bitI c.Result
    else bitI ((P.getD (s.op.getD ((s.op.length : Int) - 1 - i.A).toNat 0).toNat (0, false)).2 && !(opAt c.Code (P.getD (s.op.getD ((s.op.length : Int) - 1 - i.A).toNat 0).toNat (0, false)).1 == 25))
  else 0
def cStep (m : SModule) (c : SCore) (P : List (Int × Bool)) (i : SIns) (s : CSt) : Int ⊕ CSt :=
  if i.Op = 27 ∨ i.Op = 28 then
    if s.kn = true ∧ s.h ≠ baseP s + bitI (topP P s).2 then .inl 7
    else if i.Op = 27 then .inr { s with kn := true, h := baseP s }
    else if 24 < baseP s + bitI (topP P s).2 then .inl 4
    else .inr { s with kn := true, h := baseP s + bitI (topP P s).2, op := s.op.take (s.op.length - 1), ba := s.ba.take (s.ba.length - 1) }
  else if s.kn = false then .inl 5
  else if thereP m c i s = false then .inl 2
  else if s.h - (takeP m i).1 < baseP s then .inl 7
  else if 24 < s.h - (takeP m i).1 + (takeP m i).2 then .inl 4
  else if s.h - (takeP m i).1 + (takeP m i).2 - needP c P i s < baseP s then .inl 7
  else .inr {
    nxt := if opnB i.Op = true then s.nxt + 1 else s.nxt
    op := if opnB i.Op = true then s.op ++ [s.nxt] else s.op
    ba := if opnB i.Op = true then s.ba ++ [s.h - (takeP m i).1 + (takeP m i).2] else s.ba
    h := s.h - (takeP m i).1 + (takeP m i).2
    kn := !(i.Op == 29 || i.Op == 31 || i.Op == 40) }
def placeP (s : CSt) : SCodePlace := if s.kn = true then SCodePlace.mk true s.h s.op else SCodePlace.mk false 0 []
/-- from place k on: the places, and how it ends -/
def cRun (m : SModule) (c : SCore) (P : List (Int × Bool)) : Nat → Nat → CSt → List SCodePlace → (Int × Int) ⊕ (CSt × List SCodePlace)
  | 0, k, s, a => .inr (s, a)
  | n + 1, k, s, a => match cStep m c P (c.Code.getD k SIns.zero) s with
    | .inl x => .inl ((k : Int), x)
    | .inr s' => cRun m c P n (k + 1) s' (a ++ [placeP s])

/-- the module's numbers lie where they may -/
structure MOk (m : SModule) : Prop where
  cores : m.Cores.length ≤ 8
  imports : m.Imports.length ≤ 12
  imp : ∀ x ∈ m.Imports, 0 ≤ x.Params ∧ x.Params ≤ 8
  core : ∀ x ∈ m.Cores, (0 ≤ x.Params ∧ x.Params ≤ 8) ∧ (0 ≤ x.Locals ∧ x.Locals ≤ 8) ∧ x.Code.length ≤ 120
  ins : ∀ x ∈ m.Cores, ∀ i ∈ x.Code, (1 ≤ i.Op ∧ i.Op ≤ 40) ∧ (i.Op ≠ 1 → 0 ≤ i.A ∧ i.A ≤ 16777216)
structure CInv (B : BS) (s : CSt) : Prop where
  op : s.op = B.2
  nxt : s.nxt = (B.1.length : Int)
  len : s.ba.length = s.op.length
  ba : ∀ x ∈ s.ba, 0 ≤ x ∧ x ≤ 24
  h : 0 ≤ s.h ∧ s.h ≤ 24
theorem baseP_le {B : BS} {s : CSt} (h : CInv B s) : 0 ≤ baseP s ∧ baseP s ≤ 24 := by
  unfold baseP
  by_cases h0 : s.ba.length = 0
  · rw [if_pos h0]; omega
  · rw [if_neg h0, getD_lt (by omega)]
    exact h.ba _ (List.getElem_mem _)
theorem takeP_le {m : SModule} (hm : MOk m) (i : SIns) : (0 ≤ (takeP m i).1 ∧ (takeP m i).1 ≤ 8) ∧ (0 ≤ (takeP m i).2 ∧ (takeP m i).2 ≤ 1) := by
  have hc : 0 ≤ (m.Cores.getD i.A.toNat SCore.zero).Params ∧ (m.Cores.getD i.A.toNat SCore.zero).Params ≤ 8 := by
    rw [List.getD_eq_getElem?_getD]
    cases h : m.Cores[i.A.toNat]? with
    | none => simp [SCore.zero]
    | some x => exact (hm.core x (List.mem_of_getElem? h)).1
  have hi : 0 ≤ (m.Imports.getD i.A.toNat SImport.zero).Params ∧ (m.Imports.getD i.A.toNat SImport.zero).Params ≤ 8 := by
    rw [List.getD_eq_getElem?_getD]
    cases h : m.Imports[i.A.toNat]? with
    | none => simp [SImport.zero]
    | some x => exact hm.imp x (List.mem_of_getElem? h)
  have b1 := bitI_le (m.Cores.getD i.A.toNat SCore.zero).Result
  have b2 := bitI_le (m.Imports.getD i.A.toNat SImport.zero).Result
  unfold takeP
  repeat' split
  all_goals simp only
  all_goals omega
/-- a step that is no end of an arm -/
def nextP (m : SModule) (i : SIns) (s : CSt) : CSt := {
    nxt := if opnB i.Op = true then s.nxt + 1 else s.nxt
    op := if opnB i.Op = true then s.op ++ [s.nxt] else s.op
    ba := if opnB i.Op = true then s.ba ++ [s.h - (takeP m i).1 + (takeP m i).2] else s.ba
    h := s.h - (takeP m i).1 + (takeP m i).2
    kn := !(i.Op == 29 || i.Op == 31 || i.Op == 40) }
theorem cStep_next {m : SModule} {c : SCore} {P : List (Int × Bool)} {i : SIns} {s s' : CSt} (hn : ¬ (i.Op = 27 ∨ i.Op = 28)) (hc : cStep m c P i s = .inr s') :
    (s.kn = true ∧ thereP m c i s = true ∧ baseP s ≤ s.h - (takeP m i).1 ∧ s.h - (takeP m i).1 + (takeP m i).2 ≤ 24) ∧ s' = nextP m i s := by
  unfold cStep at hc
  rw [if_neg hn] at hc
  by_cases q1 : s.kn = false
  · rw [if_pos q1] at hc; cases hc
  rw [if_neg q1] at hc
  by_cases q2 : thereP m c i s = false
  · rw [if_pos q2] at hc; cases hc
  rw [if_neg q2] at hc
  by_cases q3 : s.h - (takeP m i).1 < baseP s
  · rw [if_pos q3] at hc; cases hc
  rw [if_neg q3] at hc
  by_cases q4 : 24 < s.h - (takeP m i).1 + (takeP m i).2
  · rw [if_pos q4] at hc; cases hc
  rw [if_neg q4] at hc
  by_cases q5 : s.h - (takeP m i).1 + (takeP m i).2 - needP c P i s < baseP s
  · rw [if_pos q5] at hc; cases hc
  rw [if_neg q5] at hc
  injection hc with hc
  exact ⟨⟨by simpa using q1, by simpa using q2, by omega, by omega⟩, hc.symm⟩
theorem cStep_inv {m : SModule} {c : SCore} {P : List (Int × Bool)} {i : SIns} {e : Int} {code : List SIns} {k : Nat} {B B' : BS} {s s' : CSt} (hm : MOk m) (hI : CInv B s) (hb : bStep e code k i B = .inr B') (hc : cStep m c P i s = .inr s') : CInv B' s' := by
  have hbl := baseP_le hI
  have htk := takeP_le hm i
  have hbit := bitI_le (topP P s).2
  have hlen : ∀ t : BS, (prS t).length = t.1.length := fun t => by simp [prS]
  rcases bStep_pr hb with ⟨ho, h6, hp, hop⟩ | ⟨ho, hp, hop⟩
  · have hn : ¬ (i.Op = 27 ∨ i.Op = 28) := by
      unfold opnB at ho
      simp only [Bool.or_eq_true, beq_iff_eq] at ho; omega
    have hl : B'.1.length = B.1.length + 1 := by rw [← hlen B', hp, List.length_append, hlen B]; rfl
    obtain ⟨⟨q1, q2, q3, q4⟩, rfl⟩ := cStep_next hn hc
    unfold nextP
    refine ⟨?_, ?_, ?_, ?_, ?_⟩
    · rw [hop, ← hI.op, ← hI.nxt]; simp only [ho, if_true]
    · simp only [ho, if_true, hI.nxt]; omega
    · simp only [ho, if_true, List.length_append, hI.len, List.length_cons, List.length_nil]
    · simp only [ho, if_true]
      intro x hx
      rcases List.mem_append.1 hx with hx | hx
      · exact hI.ba x hx
      · simp only [List.mem_cons, List.not_mem_nil, or_false] at hx; subst hx; omega
    · simp only; omega
  · have hl : B'.1.length = B.1.length := by rw [← hlen B', hp, hlen B]
    by_cases hn : i.Op = 27 ∨ i.Op = 28
    · unfold cStep at hc
      rw [if_pos hn] at hc
      split at hc
      · cases hc
      · split at hc
        · rename_i q1 q2
          injection hc with hc
          subst hc
          have h2 : B'.2 = B.2 := by
            rcases hop with ⟨_, _, h⟩ | ⟨h, _, _⟩ | ⟨h, _, _⟩
            · exact h
            · omega
            · omega
          exact ⟨by rw [h2]; exact hI.op, by rw [hl]; exact hI.nxt, hI.len, hI.ba, hbl⟩
        · split at hc
          · cases hc
          · rename_i q1 q2 q3
            injection hc with hc
            subst hc
            have h2 : B'.2 = B.2.take (B.2.length - 1) := by
              rcases hop with ⟨h, _, _⟩ | ⟨_, _, h⟩ | ⟨_, h, _⟩
              · omega
              · exact h
              · omega
            refine ⟨by rw [h2, ← hI.op], by rw [hl]; exact hI.nxt, ?_, ?_, ?_⟩
            · simp only [List.length_take, hI.len]
            · simp only; exact fun x hx => hI.ba x (List.mem_of_mem_take hx)
            · simp only; omega
    · have h2 : B'.2 = B.2 := by
        rcases hop with ⟨h, _, _⟩ | ⟨h, _, _⟩ | ⟨_, _, h⟩
        · omega
        · omega
        · exact h
      obtain ⟨⟨q1, q2, q3, q4⟩, rfl⟩ := cStep_next hn hc
      unfold nextP
      have hof : ¬ (opnB i.Op = true) := by rw [ho]; simp
      refine ⟨?_, ?_, ?_, ?_, ?_⟩
      · rw [h2]; simp only [ho, if_false, Bool.false_eq_true]; exact hI.op
      · simp only [ho, if_false, Bool.false_eq_true, hl]; exact hI.nxt
      · simp only [ho, if_false, Bool.false_eq_true, hI.len]
      · simp only [ho, if_false, Bool.false_eq_true]; exact hI.ba
      · simp only; omega
end M
