/-
  SLICES MADE BY THE CALL ITSELF: make, literals, bytes of a string; a struct's literal.
-/
import Derived.Test.YtjnemekhocfmlaaGreatXWobj
set_option linter.unusedVariables false
namespace Go.V
open Go
variable {K : Uni} {D : Cod K} {ρ : List Value} {S : Nat → Prop} {w : World} {H : List (Ob K)}

theorem run_to {α : Type} {P : Program} {x : Sem α} {f : α → Next} {a : α} {w' : World} (h : x.run P w = .ok a w') : (do pure (f (← x)) : Sem Next).run P w = .ok (f a) w' := by simp [h]
theorem elemOf_u {P : Program} {t e : TypeId} (h : elemOf? P t = some e) : P.underlying t = some (.slice e) := by
  unfold elemOf? at h; split at h
  · simp only [Option.some.injEq] at h; subst h; assumption
  · cases h
theorem szOf_i {P : Program} {t : TypeId} {n : Nat} (h : szOf P t = some n) : ∃ i, P.info? t = some i ∧ i.size = n := by
  unfold szOf at h
  cases hi : P.info? t with
  | none => simp [hi] at h
  | some i => simp [hi] at h; exact ⟨i, rfl, h⟩
theorem room_b {P : Program} {e : TypeId} {i : TypeInfo} (h : room e P = true) (hi : P.info? e = some i) : i.bytes ≤ 4096 := by
  unfold room at h; rw [hi] at h; simpa using h
theorem zeroOf_i {P : Program} {t : TypeId} {z : AV K} {i : TypeInfo} (h : zeroOf P t = some z) (hi : P.info? t = some i) : ∃ v, i.zero = some v ∧ ofVal v = some z := by
  unfold zeroOf at h; rw [hi] at h
  cases hz : i.zero with
  | none => simp [hz] at h
  | some v => simp [hz] at h; exact ⟨v, rfl, h⟩
theorem hasZero_i {P : Program} {t : TypeId} {i : TypeInfo} (h : hasZero P t = true) (hi : P.info? t = some i) : ∃ v, i.zero = some v ∧ v.cells.size = i.size := by
  unfold hasZero at h; rw [hi] at h
  cases hz : i.zero with
  | none => simp [hz] at h
  | some v => simp [hz] at h; exact ⟨v, rfl, h⟩

theorem makeSlice_does {P : Program} (hD : CodOk D) (hs : HeapSat D ρ S w H) {t e : TypeId} {c : K.U} {z : AV K} {y : K.El c} {kl kc : IntKind} {n m : Int} (ht : elemOf? P t = some e) (hsz : szOf P e = some (K.sz c)) (hroom : room e P = true)
    (hz : zeroOf P e = some z) (hk : z.known = true) (hdec : D.dec c z.toCells = some (y, true)) (h0 : 0 ≤ n) (h1 : n ≤ m) (h2 : m ≤ 1073741824) (hAT : ArrT D c e 0) :
    Does D P ρ S H w (do pure (.value (← Instr.makeSlice t (.int kl n) (.int kc m)))) (.sl H.length) (H ++ [.arr c (List.replicate n.toNat y)]) := by
  obtain ⟨i, hi, hisz⟩ := szOf_i hsz
  obtain ⟨v, hv, hov⟩ := zeroOf_i hz hi
  have hb := room_b hroom hi
  have hrz : Reps D ρ S w (D.cells c y) v.cells.toList := hD.dec c _ _ hdec ρ S w _ (rep_cells (ofVal_rep v z hov) hk)
  have hvs : v.cells.size = K.sz c := by have := hrz.1; rw [hD.len] at this; simpa using this.symm
  have hmul : (i.bytes : Int) * m ≤ 4096 * 1073741824 := Int.mul_le_mul (by omega) h2 (by omega) (by omega)
  have hrun := run_make (P := P) w t e i v (elemOf_u ht) hi hv kl kc n m h0 h1 (by omega) (by omega)
  rw [hisz] at hrun
  refine arr_does hs (c := c) (l := List.replicate n.toNat y) (vs := madeCells v.cells (m.toNat * K.sz c)) (T := e) (fr := (0, 0)) (cap := m.toNat) (w' := w.alloc (.cells (madeCells v.cells (m.toNat * K.sz c)) e)) rfl rfl rfl rfl (by simp; omega) hAT (by rw [size_madeCells]; exact Nat.le_refl _) (fun k _ hh => by have := hh.2; simp at this)
    (fun j x hx => ?_) (by rw [List.length_replicate]; exact run_to (f := .value) hrun)
  have hj : j < n.toNat := by have := (List.getElem?_eq_some_iff.1 hx).1; simpa using this
  have hxy : x = y := by
    rw [List.getElem?_replicate] at hx
    split at hx
    · simpa using hx.symm
    · rename_i hn; exact absurd hj hn
  rw [hxy, seg_made hvs (by omega)]
  exact hrz

/-! ### literals -/

theorem foldl_put (off : Nat) : ∀ (xs : List Value) (j : Nat) (cs : Array Value), ((xs.zipIdx j).foldl (fun cs (cj : Value × Nat) => cs.setIfInBounds (off + cj.2) cj.1) cs).toList = putSeg cs.toList (off + j) xs
  | [], j, cs => rfl
  | x :: r, j, cs => by
    rw [List.zipIdx_cons, List.foldl_cons, foldl_put off r (j + 1) _, putSeg, Array.toList_setIfInBounds, Nat.add_assoc]
theorem foldl_put_arr (off : Nat) (xs cs : Array Value) : (xs.zipIdx.foldl (fun cs (x : Value × Nat) => match x with | (c, j) => cs.setIfInBounds (off + j) c) cs).toList = putSeg cs.toList off xs.toList := by
  rw [← Array.foldl_toList, Array.toList_zipIdx]
  exact foldl_put off xs.toList 0 cs

theorem fill_step {place : Nat → Option (Nat × Nat)} {cells : Array Value} {i off size : Nat} {v : Value} {rest : List (Nat × Value)} (hp : place i = some (off, size)) (hv : v.cells.size = size) (hle : off + size ≤ cells.size) :
    Instr.fill place cells ((i, v) :: rest) = Instr.fill place (putSeg cells.toList off v.cells.toList).toArray rest := by
  simp only [Instr.fill, hp]
  rw [if_neg (by simp [hv]; omega)]
  congr 1
  apply Array.ext'
  rw [foldl_put_arr]

theorem fillV_fill {places : List (Nat × Nat)} {ev : Operand → AV K} {ρe : Operand → Value} (hev : ∀ x, Rep D ρ S w (ev x) (ρe x)) : ∀ (parts : List (Nat × Operand)) (cs cs' : List (AV K)) (vs : Array Value), fillV places ev cs parts = some cs' →
    Reps D ρ S w cs vs.toList → ∃ vs', Instr.fill (places.toArray[·]?) vs (parts.map fun p => (p.1, ρe p.2)) = some vs' ∧ Reps D ρ S w cs' vs'.toList
  | [], cs, cs', vs, h, hr => by simp [fillV] at h; subst h; exact ⟨vs, rfl, hr⟩
  | (i, x) :: r, cs, cs', vs, h, hr => by
    simp only [fillV] at h
    split at h
    · rename_i off n hp
      split at h
      · rename_i hc
        obtain ⟨hk, hl, hle⟩ := hc
        have hx := rep_cells (hev x) hk
        have hsz : (ρe x).cells.size = n := by have := hx.1; simp at this; omega
        have hvl : vs.size = cs.length := by have := hr.1; simp at this; omega
        obtain ⟨vs', e1, e2⟩ := fillV_fill hev r _ cs' (putSeg vs.toList off (ρe x).cells.toList).toArray h (by simpa using hx.putSeg off hr)
        refine ⟨vs', ?_, e2⟩
        rw [List.map_cons, fill_step (by simpa using hp) hsz (by omega)]
        exact e1
      · cases h
    · cases h

theorem build_run {P : Program} {ev : Operand → AV K} {ρe : Operand → Value} (hev : ∀ x, Rep D ρ S w (ev x) (ρe x)) {t : TypeId} {ps : List (Nat × Nat)} {z : AV K} {parts : Array (Nat × Operand)} {cs : List (AV K)}
    (hps : placesOf P t = some ps) (hz : zeroOf P t = some z) (hk : z.known = true) (h : fillV ps ev z.toCells parts.toList = some cs) :
    ∃ u, (Instr.build t (parts.map fun (i, x) => (i, ρe x))).run P w = .ok u w ∧ Rep D ρ S w (.agg cs) u := by
  unfold placesOf at hps
  split at hps
  · rename_i fs hu
    have hi : ∃ i, P.info? t = some i := by
      unfold zeroOf at hz
      cases h : P.info? t with
      | none => simp [h] at hz
      | some i => exact ⟨i, rfl⟩
    obtain ⟨i, hi⟩ := hi
    obtain ⟨v, hv, hov⟩ := zeroOf_i hz hi
    obtain ⟨vs', e1, e2⟩ := fillV_fill hev parts.toList _ cs v.cells h (rep_cells (ofVal_rep v z hov) hk)
    refine ⟨.agg vs', run_build w t _ vs' ?_, ?_⟩
    · simp only [Program.built, hi, hu, hv, hps]
      rw [← e1]; congr 1; simp
    · have := Rep.agg e2.1 e2.2
      simpa using this
  · cases hps

theorem seg_put_same {cs : List Value} {p n : Nat} {xs : List Value} (h1 : xs.length = n) (h2 : p + n ≤ cs.length) : seg (putSeg cs p xs).toArray p n = xs := by
  apply List.ext_getElem?
  intro k
  simp only [seg, List.getElem?_take, List.getElem?_drop]
  rw [putSeg_get _ _ _ _ (by omega)]
  by_cases hk : k < n
  · rw [if_pos hk, if_pos (by omega)]; congr 1; omega
  · rw [if_neg hk, List.getElem?_eq_none (by omega)]
theorem fill_row {sz : Nat} : ∀ (vs : List Value) (k : Nat) (cs : Array Value), (∀ v ∈ vs, v.cells.size = sz) → (k + vs.length) * sz ≤ cs.size →
    ∃ cs', Instr.fill (fun i => some (i * sz, sz)) cs ((vs.zipIdx k).map fun p => (p.2, p.1)) = some cs' ∧ cs'.size = cs.size ∧ (∀ i, i < k → seg cs' (i * sz) sz = seg cs (i * sz) sz) ∧ ∀ j v, vs[j]? = some v → seg cs' ((k + j) * sz) sz = v.cells.toList
  | [], k, cs, _, _ => ⟨cs, rfl, rfl, fun _ _ => rfl, fun j v h => by simp at h⟩
  | v :: r, k, cs, h1, h2 => by
    have hv := h1 v (by simp)
    simp only [List.length_cons] at h2
    have h2' : (k + 1) * sz ≤ cs.size := Nat.le_trans (Nat.mul_le_mul_right _ (by omega)) h2
    rw [Nat.add_mul, Nat.one_mul] at h2'
    obtain ⟨cs', e1, e2, e3, e4⟩ := fill_row r (k + 1) (putSeg cs.toList (k * sz) v.cells.toList).toArray (fun u hu => h1 u (by simp [hu])) (by simp [putSeg_length]; rw [show k + 1 + r.length = k + (r.length + 1) by omega]; exact h2)
    refine ⟨cs', ?_, by simpa [putSeg_length] using e2, fun i hi => ?_, fun j u hu => ?_⟩
    · rw [List.zipIdx_cons, List.map_cons, fill_step rfl hv (by omega)]; exact e1
    · rw [e3 i (by omega)]
      have : (i + 1) * sz ≤ k * sz := Nat.mul_le_mul_right _ (by omega)
      rw [Nat.add_mul, Nat.one_mul] at this
      exact seg_putSeg_out (by simp; rfl) (.inl this)
    · cases j with
      | zero =>
        simp at hu; subst hu
        rw [Nat.add_zero, e3 k (by omega)]
        exact seg_put_same (by simpa using hv) (by simpa using h2')
      | succ j =>
        have := e4 j u (by simpa using hu)
        rw [← this]; congr 2; omega


theorem inOrder_spec {ev : Operand → AV K} : ∀ (parts : List (Nat × Operand)) (k : Nat) (l : List (AV K)), inOrder ev k parts = some l → l = parts.map (fun p => ev p.2) ∧ parts.map (·.1) = List.range' k parts.length
  | [], k, l, h => by simp [inOrder] at h; subst h; simp
  | (i, x) :: r, k, l, h => by
    simp only [inOrder] at h
    split at h
    · rename_i hk; subst hk
      simp only [Option.map_eq_some_iff] at h
      obtain ⟨m, hm, rfl⟩ := h
      obtain ⟨e1, e2⟩ := inOrder_spec r (i + 1) m hm
      exact ⟨by simp [e1], by simp [e2, List.range'_succ]⟩
    · cases h

theorem zipIdx_of : ∀ (parts : List (Nat × Operand)) (ρe : Operand → Value) (k : Nat), parts.map (·.1) = List.range' k parts.length → parts.map (fun p => (p.1, ρe p.2)) = ((parts.map fun p => ρe p.2).zipIdx k).map fun p => (p.2, p.1)
  | [], _, _, _ => rfl
  | (i, x) :: r, ρe, k, h => by
    simp only [List.map_cons, List.length_cons, List.range'_succ, List.cons.injEq] at h
    obtain ⟨rfl, h⟩ := h
    simp only [List.map_cons, List.zipIdx_cons, List.cons.injEq, true_and]
    exact zipIdx_of r ρe (i + 1) h

theorem decAll_spec : ∀ (l : List (AV K)) (c : K.U) (y : List (K.El c)), decAll D c l = some (y, true) → y.length = l.length ∧ ∀ (i : Nat) v x, l[i]? = some v → y[i]? = some x → D.dec c v.toCells = some (x, true)
  | [], c, y, h => by simp [decAll] at h; subst h; exact ⟨rfl, fun i v x h => by simp at h⟩
  | u :: r, c, y, h => by
    simp only [decAll] at h
    split at h
    · rename_i x b m b' hx hm
      simp only [Option.some.injEq, Prod.mk.injEq, Bool.and_eq_true] at h
      obtain ⟨rfl, rfl, rfl⟩ := h
      obtain ⟨e1, e2⟩ := decAll_spec r c m hm
      refine ⟨by simp [e1], fun i v z hv hz => ?_⟩
      cases i with
      | zero => simp at hv hz; subst hv; subst hz; exact hx
      | succ i => exact e2 i v z (by simpa using hv) (by simpa using hz)
    · cases h

theorem buildSlice_row {P : Program} (hD : CodOk D) (hs : HeapSat D ρ S w H) {ev : Operand → AV K} {ρe : Operand → Value} (hev : ∀ x, Rep D ρ S w (ev x) (ρe x)) {t e : TypeId} {c : K.U} {len : Nat} {parts : Array (Nat × Operand)} {l : List (AV K)} {y : List (K.El c)}
    (ht : elemOf? P t = some e) (hsz : szOf P e = some (K.sz c)) (hz : hasZero P e = true) (hl : inOrder ev 0 parts.toList = some l) (hlen : l.length = len) (h1 : len ≤ 4096) (h2 : K.sz c ≤ 4096)
    (hall : l.all (fun v => closeds v.toCells && (v.known && decide (v.toCells.length = K.sz c))) = true) (hdec : decAll D c l = some (y, true)) :
    ∃ cs' : Array Value, (do pure (.value (← Instr.buildSlice t len (parts.map fun (i, x) => (i, ρe x)))) : Sem Next).run P w = .ok (.value (.slice (some ⟨w.heap.size, 0, none⟩) y.length y.length)) (w.alloc (.cells cs' e)) ∧ y.length * K.sz c ≤ cs'.size ∧
      ∀ i x, y[i]? = some x → Reps D ρ S w (D.cells c x) (seg cs' (i * K.sz c) (K.sz c)) := by
  obtain ⟨i, hi, hisz⟩ := szOf_i hsz
  obtain ⟨zv, hzv, -⟩ := hasZero_i hz hi
  obtain ⟨el, er⟩ := inOrder_spec _ _ _ hl
  obtain ⟨dl, dd⟩ := decAll_spec l c y hdec
  have hpl : parts.toList.length = len := by rw [← hlen, el]; simp
  have hmul : len * K.sz c ≤ 4096 * 4096 := Nat.mul_le_mul h1 h2
  have hget : ∀ (j : Nat) v, l[j]? = some v → closeds v.toCells = true ∧ v.known = true ∧ v.toCells.length = K.sz c := fun j v hv => by
    have := List.all_eq_true.1 hall v (List.mem_of_getElem? hv)
    simpa using this
  generalize hus : parts.toList.map (fun p => ρe p.2) = us
  have hrel : ∀ (j : Nat) v u, l[j]? = some v → us[j]? = some u → Rep D ρ S w v u := fun j v u hv hu => by
    rw [el] at hv; rw [← hus] at hu
    simp only [List.getElem?_map, Option.map_eq_some_iff] at hv hu
    obtain ⟨p, hp, rfl⟩ := hv
    obtain ⟨q, hq, rfl⟩ := hu
    rw [hp] at hq; simp at hq; subst hq; exact hev _
  have hul : us.length = l.length := by rw [← hus, el]; simp
  have hcs : ∀ u ∈ us, u.cells.size = K.sz c := fun u hu => by
    obtain ⟨j, hj, rfl⟩ := List.getElem_of_mem hu
    have hjl : j < l.length := by omega
    obtain ⟨-, hk, hn⟩ := hget j _ (List.getElem?_eq_getElem hjl)
    have := (rep_cells (hrel j _ _ (List.getElem?_eq_getElem hjl) (List.getElem?_eq_getElem hj)) hk).1
    rw [hn] at this; simpa using this.symm
  let zero : Array Value := if len * K.sz c = 0 then #[] else zv.cells
  obtain ⟨cs', e1, e2, -, e4⟩ := fill_row (sz := K.sz c) us 0 ((Array.range (len * K.sz c)).map (zero[· % zero.size]!)) hcs (by simp [hul, hlen])
  have hparts : (parts.map fun (x : Nat × Operand) => match x with | (i, x) => (i, ρe x)).toList = (us.zipIdx 0).map fun p => (p.2, p.1) := by
    rw [← hus, ← zipIdx_of parts.toList ρe 0 (by rw [er])]; simp
  have hrun : (Instr.buildSlice t len (parts.map fun (i, x) => (i, ρe x))).run P w = .ok (.slice (some ⟨w.heap.size, 0, none⟩) len len) (w.alloc (.cells cs' e)) := by
    have hsize : (sizeOf e).run P w = .ok (K.sz c) w := szOf_run hsz
    unfold Instr.buildSlice
    rw [hparts]
    simp only [Sem.run_bind, underlying_run (elemOf_u ht), Result.andThen_ok, hsize]
    rw [if_neg (by omega)]
    by_cases h0 : len * K.sz c = 0
    · rw [if_pos h0]
      have e1' := e1
      simp only [zero, if_pos h0] at e1'
      simp only [Sem.run_bind, Sem.run_pure, Result.andThen_ok, e1']
      simp [newRow]
    · rw [if_neg h0]
      have e1' := e1
      simp only [zero, if_neg h0] at e1'
      have hzr : (zeroValue e).run P w = .ok zv w := by simp [zeroValue, typeInfo, hi, hzv]
      simp only [Sem.run_bind, Sem.run_pure, Result.andThen_ok, hzr, e1']
      simp [newRow]
  have hyl : y.length = len := by rw [dl, hlen]
  refine ⟨cs', by rw [hyl]; exact run_to (f := .value) hrun, by rw [hyl, e2]; simp, fun j x hx => ?_⟩
  have hj : j < l.length := by rw [← dl]; exact (List.getElem?_eq_some_iff.1 hx).1
  have hjv := List.getElem?_eq_getElem hj
  have hju := List.getElem?_eq_getElem (show j < us.length by omega)
  obtain ⟨-, hk, -⟩ := hget j _ hjv
  have := e4 j _ hju
  rw [Nat.zero_add] at this
  rw [this]
  exact hD.dec c _ _ (dd j _ _ hjv hx) ρ S w _ (rep_cells (hrel j _ _ hjv hju) hk)


theorem buildSlice_does {P : Program} (hD : CodOk D) (hs : HeapSat D ρ S w H) {ev : Operand → AV K} {ρe : Operand → Value} (hev : ∀ x, Rep D ρ S w (ev x) (ρe x)) {t e : TypeId} {c : K.U} {len : Nat} {parts : Array (Nat × Operand)} {l : List (AV K)} {y : List (K.El c)}
    (ht : elemOf? P t = some e) (hsz : szOf P e = some (K.sz c)) (hz : hasZero P e = true) (hl : inOrder ev 0 parts.toList = some l) (hlen : l.length = len) (h1 : len ≤ 4096) (h2 : K.sz c ≤ 4096)
    (hall : l.all (fun v => closeds v.toCells && (v.known && decide (v.toCells.length = K.sz c))) = true) (hdec : decAll D c l = some (y, true)) (hAT : ArrT D c e 0) :
    Does D P ρ S H w (do pure (.value (← Instr.buildSlice t len (parts.map fun (i, x) => (i, ρe x))))) (.sl H.length) (H ++ [.arr c y]) := by
  obtain ⟨cs', hrun, hcs, hseg⟩ := buildSlice_row hD hs hev ht hsz hz hl hlen h1 h2 hall hdec
  exact arr_does hs (c := c) (l := y) (vs := cs') (T := e) (fr := (0, 0)) (cap := y.length) (w' := w.alloc (.cells cs' e)) rfl rfl rfl rfl (Nat.le_refl _) hAT hcs (fun k _ hh => by have := hh.2; simp at this) hseg hrun

end Go.V
