/-
  A TYPE's BYTES: both sides write the same.
-/
import Derived.Test.YtlnailoffdmkiaaXBU1
set_option linter.unusedVariables false
set_option linter.unusedSimpArgs false
namespace M
open Go.V (inB slB bigN bigN_le catB)

mutual
def tB : SType → List UInt8
  | .mk k n l kids => UInt8.ofNat k.toNat :: (if k = 20 ∨ k = 21 then pb n else if k = 15 then lebB kids.length ++ kB kids else (if 16 ≤ k ∧ k ≤ 19 then lebB l.length ++ (l.map pb).flatten else []) ++ kB kids)
def kB : List SType → List UInt8
  | [] => []
  | x :: r => tB x ++ kB r
end
def lbB (l : List (List UInt8)) : List UInt8 := lebB l.length ++ (l.map pb).flatten
theorem tB_eq (t : SType) : tB t = UInt8.ofNat t.Kind.toNat :: (if t.Kind = 20 ∨ t.Kind = 21 then pb t.Name else if t.Kind = 15 then lebB t.Kids.length ++ kB t.Kids else (if 16 ≤ t.Kind ∧ t.Kind ≤ 19 then lbB t.Labels else []) ++ kB t.Kids) := by
  cases t; rfl

theorem flat_len {α : Type} {f : α → List UInt8} {g : α → Nat} : ∀ (l : List α) (N : Nat), (∀ x ∈ l, (f x).length ≤ N * (g x + 1)) → ((l.map f).flatten).length ≤ N * szL g l
  | [], N, _ => by simp
  | x :: r, N, h => by
    have ih := flat_len r N fun y hy => h y (List.mem_cons_of_mem _ hy)
    have hx := h x (List.mem_cons_self ..)
    have e : szL g (x :: r) = (g x + 1) + szL g r := by simp only [szL]
    rw [List.map_cons, List.flatten_cons, List.length_append, e, Nat.mul_add]
    omega
theorem kB_flat : ∀ l, kB l = (l.map tB).flatten
  | [] => rfl
  | x :: r => by rw [kB, List.map_cons, List.flatten_cons, kB_flat r]
theorem lbB_len (l : List (List UInt8)) : (lbB l).length ≤ 9 + 10 * szL List.length l := by
  have h1 := lebB_len l.length
  have h2 := flat_len (f := pb) (g := List.length) l 10 (fun x _ => by have := pb_len x; omega)
  unfold lbB; rw [List.length_append]; omega
theorem tB_len : ∀ (n : Nat) (t : SType), t.sz < n → (tB t).length ≤ 20 * (t.sz + 1)
  | 0, t, h => absurd h (Nat.not_lt_zero _)
  | n + 1, t, h => by
    have hk := flat_len (f := tB) (g := SType.sz) t.Kids 20 (fun x hx => tB_len n x (by have := SType.kid_lt hx; omega))
    rw [← kB_flat] at hk
    have hl := lbB_len t.Labels
    have hp := pb_len t.Name
    have hb := lebB_len t.Kids.length
    have hs := SType.sz_eq t
    rw [tB_eq, List.length_cons]
    split
    · omega
    · split
      · rw [List.length_append]; omega
      · split
        · rw [List.length_append]; omega
        · rw [List.length_append, List.length_nil]; omega
theorem kB_len (l : List SType) (N : Nat) (h : szL SType.sz l ≤ N) : (kB l).length ≤ 20 * N := by
  have := flat_len (f := tB) (g := SType.sz) l 20 (fun x _ => tB_len _ x (Nat.lt_succ_self _))
  rw [← kB_flat] at this
  have h2 : 20 * szL SType.sz l ≤ 20 * N := Nat.mul_le_mul_left _ h
  omega
theorem len_mem {l : List SType} {x : SType} (hx : x ∈ l) : (tB x).length ≤ (kB l).length := by
  induction l with
  | nil => cases hx
  | cons y r ih =>
    rw [kB, List.length_append]
    rcases List.mem_cons.1 hx with rfl | h
    · omega
    · have := ih h; omega

/-- a loop that puts one behind the other -/
theorem cat_loop {α : Type} {F : Nat → Int → List UInt8 → Option (List UInt8)} {e : α → List UInt8} (l : List α) (N : Nat) (hn : l.length ≤ 1048576)
    (step : ∀ f k b, ∀ hk : k < l.length, b.length + (e l[k]).length ≤ N → F (f + 1) (k : Int) b = F f ((k + 1 : Nat) : Int) (b ++ e l[k])) (stop : ∀ f b, F (f + 1) (l.length : Int) b = some b)
    (a : List UInt8) (h0 : a.length + ((l.map e).flatten).length ≤ N) : F bigN 0 a = some (a ++ (l.map e).flatten) := by
  have := fold_loop (F := F) (g := fun b x => b ++ e x) (h := fun b => b) l (by omega) (fun k b => b.length + (((l.drop k).map e).flatten).length ≤ N) (fun f k b hk hI => by
    rw [drop_get hk, List.map_cons, List.flatten_cons, List.length_append] at hI
    exact ⟨step f k b hk (by omega), by rw [List.length_append]; omega⟩) (fun f b _ => stop f b) a (by simpa using h0)
  rw [this]
  congr 1
  clear this step stop h0 hn
  induction l generalizing a with
  | nil => simp
  | cons x r ih => rw [List.foldl_cons, ih, List.map_cons, List.flatten_cons, List.append_assoc]

theorem ws_ok {s b : List UInt8} (h : b.length + s.length ≤ 1073741824) : M.strings_Builder_WriteString s b = some ((s.length : Int), b ++ s) := by
  unfold M.strings_Builder_WriteString
  simp only [List.map_id', lenB h, Bool.and_true, cond_true]

theorem labs_i (l : List (List UInt8)) (h : szL List.length l ≤ 1048576) : M.i_sequence_string l = some (lbB l) := by
  have hn : l.length ≤ 1048576 := Nat.le_trans (szL_len _ _) h
  have hb := lebB_len l.length
  have htot := lbB_len l
  have htot2 : (lebB l.length).length + ((l.map pb).flatten).length ≤ 1073741824 := by unfold lbB at htot; rw [List.length_append] at htot; omega
  have e := cat_loop (F := fun f i b => M.i_sequence_string_l0 l (l.length : Int) f i b) (e := pb) l 1073741824 hn (fun f k b hk hI => by
    show M.i_sequence_string_l0 l (l.length : Int) (f + 1) (k : Int) b = _
    rw [M.i_sequence_string_l0]
    have hx : (l[k]).length ≤ 1048576 := szL_mem' h (List.getElem_mem hk)
    simp only [getD_lt hk, Int.toNat_natCast, bytes_i _ hx, ws_ok hI, inB_nat, Int.ofNat_lt, hk, decide_true, cond_true, Bool.true_and, Bool.and_true, wrapk hk (by omega : l.length < 2 ^ 62), Option.getD_some, Option.isSome_some]) (fun f b => by
    show M.i_sequence_string_l0 l (l.length : Int) (f + 1) _ b = _
    rw [M.i_sequence_string_l0]; simp) (lebB l.length) htot2
  have e' : M.i_sequence_string_l0 l (l.length : Int) bigN 0 (lebB l.length) = _ := e
  unfold M.i_sequence_string
  rw [leb_i _ hn]
  simp only [Option.getD_some, ws_ok (b := []) (s := lebB l.length) (by simp; omega), List.nil_append, e']
  have : M.strings_Builder_String (lebB l.length ++ (l.map pb).flatten) = some (lebB l.length ++ (l.map pb).flatten) := by
    unfold M.strings_Builder_String
    rw [lenB (by rw [List.length_append]; exact htot2)]; rfl
  rw [this]; rfl
theorem labs_s (l : List (List UInt8)) (h : szL List.length l ≤ 1048576) : M.s_l24Texts l = some (lbB l) := by
  have hn : l.length ≤ 1048576 := Nat.le_trans (szL_len _ _) h
  have hb := lebB_len l.length
  have htot := lbB_len l
  have htot2 : (lebB l.length).length + ((l.map pb).flatten).length ≤ 1073741824 := by unfold lbB at htot; rw [List.length_append] at htot; omega
  have e := cat_loop (F := fun f i b => M.s_l24Texts_l0 l f i b) (e := pb) l 1073741824 hn (fun f k b hk hI => by
    show M.s_l24Texts_l0 l (f + 1) (k : Int) b = _
    rw [M.s_l24Texts_l0]
    have hx : (l[k]).length ≤ 1048576 := szL_mem' h (List.getElem_mem hk)
    simp only [getD_lt hk, Int.toNat_natCast, bytes_s _ hx, List.map_id', lenB hI, inB_nat, Int.ofNat_lt, hk, decide_true, cond_true, Bool.true_and, Bool.and_true, wrapk hk (by omega : l.length < 2 ^ 62), Option.getD_some, Option.isSome_some]) (fun f b => by
    show M.s_l24Texts_l0 l (f + 1) _ b = _
    rw [M.s_l24Texts_l0]; simp) (lebB l.length) htot2
  have e' : M.s_l24Texts_l0 l bigN 0 (lebB l.length) = _ := e
  unfold M.s_l24Texts
  rw [leb_s _ hn]
  simp only [Option.getD_some, List.map_id', e', lenB (show (lebB l.length).length ≤ 1073741824 by omega), Option.isSome_some, Bool.and_self, cond_true]
  rfl

theorem shape_kind {t : SType} (h : tShape t = true) : (1 ≤ t.Kind ∧ t.Kind ≤ 23) ∧ ((16 ≤ t.Kind ∧ t.Kind ≤ 19) ↔ t.Labels ≠ []) ∧ ((t.Kind = 20 ∨ t.Kind = 21) ↔ t.Name ≠ []) := by
  rw [tShape_eq] at h
  simp only [Bool.and_eq_true] at h
  have hk := h.1
  unfold shape1 at hk
  simp only [Bool.and_eq_true] at hk
  obtain ⟨⟨hl, hn⟩, hk⟩ := hk
  refine ⟨?_, ?_, ?_⟩
  · unfold kidsB at hk
    split at hk
    · omega
    · split at hk
      · omega
      · split at hk
        · omega
        · split at hk
          · omega
          · split at hk
            · omega
            · split at hk
              · omega
              · simp only [Bool.and_eq_true, decide_eq_true_eq] at hk; omega
  · unfold labB at hl
    split at hl
    · rename_i hb
      simp only [Bool.and_eq_true, decide_eq_true_eq] at hb
      refine ⟨fun _ e => ?_, fun _ => hb⟩
      rw [e] at hl; unfold labOk at hl; simp at hl
    · rename_i hb
      simp only [Bool.and_eq_true, decide_eq_true_eq] at hb
      have : t.Labels = [] := List.eq_nil_of_length_eq_zero (by simpa using hl)
      exact ⟨fun h => absurd h hb, fun h => absurd this h⟩
  · unfold namedB at hn
    split at hn
    · rename_i hb
      simp only [Bool.or_eq_true, beq_iff_eq] at hb
      refine ⟨fun _ e => ?_, fun _ => hb⟩
      rw [e] at hn; unfold nameOk at hn; simp at hn
    · rename_i hb
      simp only [Bool.or_eq_true, beq_iff_eq] at hb
      have : t.Name = [] := by simpa using hn
      exact ⟨fun h => absurd h hb, fun h => absurd this h⟩
theorem kb {a b : Int} (h : a ≠ b) : (a == b) = false := by rw [beq_eq_false_iff_ne]; exact h
theorem kt {a b : Int} (h : a = b) : (a == b) = true := by rw [h]; exact beq_self_eq_true b

section
variable {rec : SType → Option (List UInt8)} {kids : List SType}
theorem kids_i (h : szL SType.sz kids ≤ 1048576) (hr : ∀ x ∈ kids, rec x = some (tB x)) (a : List UInt8) (ha : a.length ≤ 100000000) : M.i_typeBytes_l0 rec kids (kids.length : Int) bigN a 0 = some (a ++ kB kids) := by
  have hn : kids.length ≤ 1048576 := Nat.le_trans (szL_len _ _) h
  have hk := kB_len kids _ h
  have e := cat_loop (F := fun f i b => M.i_typeBytes_l0 rec kids (kids.length : Int) f b i) (e := tB) kids 1073741824 hn (fun f k b hk hI => by
    show M.i_typeBytes_l0 rec kids (kids.length : Int) (f + 1) b (k : Int) = _
    rw [M.i_typeBytes_l0]
    simp only [SType.re_eq, getD_lt hk, Int.toNat_natCast, hr _ (List.getElem_mem hk), catOk hI, inB_nat, Int.ofNat_lt, hk, decide_true, cond_true, Bool.true_and, Bool.and_true, wrapk hk (by omega : kids.length < 2 ^ 62), Option.getD_some, Option.isSome_some]) (fun f b => by
    show M.i_typeBytes_l0 rec kids (kids.length : Int) (f + 1) b _ = _
    rw [M.i_typeBytes_l0]; simp) a (by rw [← kB_flat]; omega)
  rw [kB_flat]; exact e
theorem kids_s {t : SType} (hkk : t.Kids = kids) (h : szL SType.sz kids ≤ 1048576) (hr : ∀ x ∈ kids, rec x = some (tB x)) (a : List UInt8) (ha : a.length ≤ 100000000) : M.s_l24Type_l0 rec bigN a 0 t = some (a ++ kB kids) := by
  have hn : kids.length ≤ 1048576 := Nat.le_trans (szL_len _ _) h
  have hk := kB_len kids _ h
  have e := cat_loop (F := fun f i b => M.s_l24Type_l0 rec f b i t) (e := tB) kids 1073741824 hn (fun f k b hk hI => by
    show M.s_l24Type_l0 rec (f + 1) b (k : Int) t = _
    rw [M.s_l24Type_l0]
    simp only [SType.re_eq, hkk, getD_lt hk, Int.toNat_natCast, hr _ (List.getElem_mem hk), catOk hI, inB_nat, Int.ofNat_lt, hk, decide_true, cond_true, Bool.true_and, Bool.and_true, wrapk hk (by omega : kids.length < 2 ^ 62), Option.getD_some, Option.isSome_some]) (fun f b => by
    show M.s_l24Type_l0 rec (f + 1) b _ t = _
    rw [M.s_l24Type_l0, hkk]; simp) a (by rw [← kB_flat]; omega)
  rw [kB_flat]; exact e
theorem seq_i (h : szL SType.sz kids ≤ 1048576) (hr : ∀ x ∈ kids, rec x = some (tB x)) : M.i_sequence_Type rec kids = some (lebB kids.length ++ kB kids) := by
  have hn : kids.length ≤ 1048576 := Nat.le_trans (szL_len _ _) h
  have hk := kB_len kids _ h
  have hb := lebB_len kids.length
  have e := cat_loop (F := fun f i b => M.i_sequence_Type_l0 rec kids (kids.length : Int) f i b) (e := tB) kids 1073741824 hn (fun f k b hk hI => by
    show M.i_sequence_Type_l0 rec kids (kids.length : Int) (f + 1) (k : Int) b = _
    rw [M.i_sequence_Type_l0]
    simp only [SType.re_eq, getD_lt hk, Int.toNat_natCast, hr _ (List.getElem_mem hk), ws_ok hI, inB_nat, Int.ofNat_lt, hk, decide_true, cond_true, Bool.true_and, Bool.and_true, wrapk hk (by omega : kids.length < 2 ^ 62), Option.getD_some, Option.isSome_some]) (fun f b => by
    show M.i_sequence_Type_l0 rec kids (kids.length : Int) (f + 1) _ b = _
    rw [M.i_sequence_Type_l0]; simp) (lebB kids.length) (by rw [← kB_flat]; omega)
  have e' : M.i_sequence_Type_l0 rec kids (kids.length : Int) bigN 0 (lebB kids.length) = _ := e
  unfold M.i_sequence_Type
  rw [leb_i _ hn]
  simp only [Option.getD_some, ws_ok (b := []) (s := lebB kids.length) (by simp; omega), List.nil_append, e']
  have : M.strings_Builder_String (lebB kids.length ++ (kids.map tB).flatten) = some (lebB kids.length ++ (kids.map tB).flatten) := by
    unfold M.strings_Builder_String
    rw [lenB (by rw [List.length_append, ← kB_flat]; omega)]; rfl
  rw [this, kB_flat]; rfl
end

theorem bytes_t_i : ∀ (m : Nat) (t : SType), t.sz < m → t.sz ≤ 1048576 → tShape t = true → M.i_typeBytes_n m t = some (tB t)
  | 0, t, h, _, _ => absurd h (Nat.not_lt_zero _)
  | m + 1, t, h, ht, hs => by
    obtain ⟨hkd, hlab, hnam⟩ := shape_kind hs
    have hkidsS : ∀ x ∈ t.Kids, tShape x = true := by
      rw [tShape_eq, Bool.and_eq_true, kShape_all, List.all_eq_true] at hs; exact hs.2
    have hr : ∀ x ∈ t.Kids, M.i_typeBytes_n m x = some (tB x) := fun x hx => by
      have := SType.kid_lt hx
      exact bytes_t_i m x (by omega) (by omega) (hkidsS x hx)
    have hK := SType.kids_le ht
    have hf : M.i_putFix t.Kind 1 = some [UInt8.ofNat t.Kind.toNat] := by
      have := fix_i t.Kind.toNat (by omega)
      rwa [show ((t.Kind.toNat : Nat) : Int) = t.Kind by omega] at this
    show M.i_typeBytes_b (M.i_typeBytes_n m) t = _
    unfold M.i_typeBytes_b
    rw [tB_eq, hf, bytes_i _ (SType.name_le ht), seq_i hK hr, labs_i _ (SType.labels_le ht)]
    have hp := pb_len t.Name
    have hnl := SType.name_le ht
    have hkl := kB_len _ _ hK
    have hll := lbB_len t.Labels
    have hlle := SType.labels_le ht
    have hbl := lebB_len t.Kids.length
    by_cases h20 : t.Kind = 20 ∨ t.Kind = 21
    · have : ((t.Kind == 20) || (t.Kind == 21)) = true := by rcases h20 with h | h <;> simp [h]
      rw [this, if_pos h20]
      simp only [Option.getD_some, Option.isSome_some, cond_true, Bool.and_true, catOk (a := [UInt8.ofNat t.Kind.toNat]) (b := pb t.Name) (by simp; omega)]
      rfl
    · rw [if_neg h20]
      simp only [not_or] at h20
      rw [kb h20.1, kb h20.2]
      simp only [Bool.or_self, cond_false]
      by_cases h15 : t.Kind = 15
      · rw [if_pos h15, kt h15]
        simp only [Option.getD_some, Option.isSome_some, cond_true, Bool.and_true, catOk (a := [UInt8.ofNat t.Kind.toNat]) (b := lebB t.Kids.length ++ kB t.Kids) (by simp; omega)]
        rfl
      · rw [if_neg h15, kb h15]
        simp only [cond_false, Option.getD_some, Option.isSome_some, Bool.and_true]
        by_cases hlk : 16 ≤ t.Kind ∧ t.Kind ≤ 19
        · have : (decide ((16 : Int) ≤ t.Kind) && decide (t.Kind ≤ 19)) = true := by rw [decide_eq_true hlk.1, decide_eq_true hlk.2]; rfl
          rw [this, if_pos hlk]
          simp only [cond_true]
          rw [kids_i hK hr _ (by simp; omega)]
          simp only [catOk (a := [UInt8.ofNat t.Kind.toNat]) (b := lbB t.Labels) (by simp; omega), Bool.true_or, Bool.or_true, Bool.and_self, cond_true]
          simp
        · have : (decide ((16 : Int) ≤ t.Kind) && decide (t.Kind ≤ 19)) = false := by
            rw [Bool.and_eq_false_iff]
            by_cases h0 : (16 : Int) ≤ t.Kind
            · right; exact decide_eq_false (by omega)
            · left; exact decide_eq_false h0
          rw [this, if_neg hlk]
          simp only [cond_false]
          rw [kids_i hK hr _ (by simp)]
          simp
theorem bytes_t_s : ∀ (m : Nat) (t : SType), t.sz < m → t.sz ≤ 1048576 → tShape t = true → M.s_l24Type_n m t = some (tB t)
  | 0, t, h, _, _ => absurd h (Nat.not_lt_zero _)
  | m + 1, t, h, ht, hs => by
    obtain ⟨hkd, hlab, hnam⟩ := shape_kind hs
    have hkidsS : ∀ x ∈ t.Kids, tShape x = true := by
      rw [tShape_eq, Bool.and_eq_true, kShape_all, List.all_eq_true] at hs; exact hs.2
    have hr : ∀ x ∈ t.Kids, M.s_l24Type_n m x = some (tB x) := fun x hx => by
      have := SType.kid_lt hx
      exact bytes_t_s m x (by omega) (by omega) (hkidsS x hx)
    have hK := SType.kids_le ht
    have hf : M.s_PutFix t.Kind 1 = some [UInt8.ofNat t.Kind.toNat] := by
      have := fix_s t.Kind.toNat (by omega)
      rwa [show ((t.Kind.toNat : Nat) : Int) = t.Kind by omega] at this
    have hn : t.Kids.length ≤ 1048576 := SType.kids_len ht
    show M.s_l24Type_b (M.s_l24Type_n m) t = _
    unfold M.s_l24Type_b
    rw [tB_eq, hf, bytes_s _ (SType.name_le ht), labs_s _ (SType.labels_le ht), leb_s _ hn, SType.re_eq]
    have hp := pb_len t.Name
    have hnl := SType.name_le ht
    have hkl := kB_len _ _ hK
    have hll := lbB_len t.Labels
    have hlle := SType.labels_le ht
    have hbl := lebB_len t.Kids.length
    by_cases h20 : t.Kind = 20 ∨ t.Kind = 21
    · have : (t.Name == []) = false := by
        cases hh : t.Name with
        | nil => exact absurd hh (hnam.1 h20)
        | cons a r => rfl
      rw [this, if_pos h20]
      simp only [Bool.not_false, Option.getD_some, Option.isSome_some, cond_true, Bool.and_true, catOk (a := [UInt8.ofNat t.Kind.toNat]) (b := pb t.Name) (by simp; omega)]
      rfl
    · rw [if_neg h20]
      have : t.Name = [] := by
        by_cases hh : t.Name = []
        · exact hh
        · exact absurd (hnam.2 hh) h20
      rw [this]
      simp only [beq_self_eq_true, Bool.not_true, cond_false, Option.getD_some, Option.isSome_some, Bool.and_true]
      by_cases hlk : 16 ≤ t.Kind ∧ t.Kind ≤ 19
      · have hne := hlab.1 hlk
        have hpos : 0 < t.Labels.length := List.length_pos_iff.2 hne
        have d : decide ((0 : Int) < (t.Labels.length : Int)) = true := decide_eq_true (by omega)
        rw [d, if_neg (by omega), if_pos hlk]
        simp only [cond_true]
        rw [kids_s rfl hK hr _ (by simp; omega)]
        simp only [catOk (a := [UInt8.ofNat t.Kind.toNat]) (b := lbB t.Labels) (by simp; omega), Bool.true_or, Bool.or_true, Bool.and_self, cond_true]
        simp
      · have hnil : t.Labels = [] := by
          by_cases hh : t.Labels = []
          · exact hh
          · exact absurd (hlab.2 hh) hlk
        have d : decide ((0 : Int) < (t.Labels.length : Int)) = false := decide_eq_false (by rw [hnil]; simp)
        rw [d]
        simp only [cond_false]
        by_cases h15 : t.Kind = 15
        · rw [if_pos h15, kt h15]
          simp only [cond_true]
          rw [kids_s rfl hK hr _ (by simp; omega)]
          simp only [catOk (a := [UInt8.ofNat t.Kind.toNat]) (b := lebB t.Kids.length) (by simp; omega), Bool.true_or, Bool.or_true, Bool.and_self, cond_true]
          simp
        · rw [if_neg h15, if_neg hlk, kb h15]
          simp only [cond_false]
          rw [kids_s rfl hK hr _ (by simp)]
          simp

def tyB (t : SType) : List UInt8 := if tOk t then tB t else []
theorem tOk_sh {t : SType} (h : tOk t = true) : tShape t = true := by
  unfold tOk at h; rw [Bool.and_eq_true] at h; exact h.2
theorem TypeBytes_i (t : SType) (h : t.sz ≤ 1048576) : M.i_TypeBytes t = some (tyB t) := by
  unfold M.i_TypeBytes tyB
  rw [SType.re_eq, typeOk_i t h]
  cases ho : tOk t
  · rfl
  · have e : M.i_typeBytes t = some (tB t) := bytes_t_i bigN t (bigN_gt h) h (tOk_sh ho)
    rw [e]; rfl
theorem TypeBytes_s (t : SType) (h : t.sz ≤ 1048576) : M.s_TypeBytes t = some (tyB t) := by
  unfold M.s_TypeBytes tyB
  rw [SType.re_eq, typeOk_s t h]
  cases ho : tOk t
  · rfl
  · have e : M.s_l24Type t = some (tB t) := bytes_t_s bigN t (bigN_gt h) h (tOk_sh ho)
    rw [e]; rfl

theorem law_TypeBytes (x : SType) (hx : x.Ok) : M.l_FnExactTypeBytes x = some true := by
  unfold M.l_FnExactTypeBytes
  rw [SType.re_eq, sz_Type x 1048576 hx (by omega) (by omega)]
  by_cases h1 : (x.sz : Int) ≤ 1048576
  · have n1 : ¬ (1048576 - (x.sz : Int) < 0) := by omega
    rw [if_pos h1]
    simp only [SType.re_eq, to_Type x (by omega), TypeBytes_i x (by omega), TypeBytes_s x (by omega), eq_Type x (by omega), Option.getD_some, Option.isSome_some, n1, decide_false, cond_false, Bool.and_true, Bool.and_self, cond_true, beq_self_eq_true, bne_self_eq_false, Bool.not_true, Bool.or_false]
  · rw [if_neg h1]; simp
end M
