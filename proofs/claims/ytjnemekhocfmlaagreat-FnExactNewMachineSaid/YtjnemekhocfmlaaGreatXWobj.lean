/-
  OPERATIONS THAT MAKE OBJECTS OR TURN THEM.
-/
import Derived.Test.YtjnemekhocfmlaaGreatXWpure
import Derived.Test.YtjnemekhocfmlaaGreatXWtreeA
import Derived.Laws.MakeOwn
set_option linter.unusedVariables false
namespace Go.V
open Go
variable {K : Uni} {D : Cod K} {ρ : List Value} {S : Nat → Prop} {w : World} {H : List (Ob K)}

theorem one_cell {v : AV K} {X : Value} (h : Rep D ρ S w v X) (h1 : v.one = true) : X.oneCell' = true := by
  cases h <;> first | rfl | cases h1
theorem reps_one {l : List (AV K)} {vs : List Value} (h : Reps D ρ S w l vs) (h1 : l.all AV.one = true) : ∀ x ∈ vs, x.oneCell' = true := fun x hx => by
  obtain ⟨i, hi, rfl⟩ := List.getElem_of_mem hx
  have hl : i < l.length := by rw [h.1]; exact hi
  exact one_cell (h.2 i l[i] _ (List.getElem?_eq_getElem hl) (List.getElem?_eq_getElem hi)) (List.all_eq_true.1 h1 _ (List.getElem_mem hl))
theorem rep_cells {v : AV K} {X : Value} (h : Rep D ρ S w v X) (hk : v.known = true) : Reps D ρ S w v.toCells X.cells.toList := by
  cases h with
  | any => cases hk
  | agg hl hr => exact ⟨hl, hr⟩
  | int k n => exact .cons (.int k n) .nil
  | bool b => exact .cons (.bool b) .nil
  | str s => exact .cons (.str s) .nil
  | nilp => exact .cons .nilp .nil
  | nilsl => exact .cons .nilsl .nil
  | fn hl hr => exact .cons (.fn hl hr) .nil
  | np0 => exact .cons .np0 .nil
  | np hp => exact .cons (.np hp) .nil
  | ptr hp => exact .cons (.ptr hp) .nil
  | sl hp => exact .cons (.sl hp) .nil
  | ep hp hi => exact .cons (.ep hp hi) .nil
  | vw hp h1 h2 ha => exact .cons (.vw hp h1 h2 ha) .nil
  | dsl0 a cap => exact .cons (.dsl0 a cap) .nil
  | dsl val h1 h2 h3 h4 h5 => exact .cons (.dsl val h1 h2 h3 h4 h5) .nil
  | rp vs h1 h2 h3 h4 => exact .cons (.rp vs h1 h2 h3 h4) .nil
  | tup hl hr => exact .cons (.tup hl hr) .nil
theorem one_known {v : AV K} (h : v.toCells.all AV.one = true) : v.known = true := by
  cases v <;> first | rfl | simp [AV.toCells, AV.one] at h

theorem heap_push_old {w : World} {o : Obj} {k : Nat} (h : k < w.heap.size) : (w.heap.push o)[k]? = w.heap[k]? := by rw [Array.getElem?_push, if_neg (by omega)]
theorem heap_push_new (h : Array Obj) (o : Obj) : (h.push o)[h.size]? = some o := by rw [Array.getElem?_push, if_pos rfl]
def Does (D : Cod K) (P : Program) (ρ : List Value) (S : Nat → Prop) (H : List (Ob K)) (w : World) (s : Sem Next) (v : AV K) (H' : List (Ob K)) : Prop :=
  ∃ n u w' ρ', s.run P w = .ok n w' ∧ ((n = .value u) ∨ (n = .skip ∧ u = undef)) ∧ HeapSat D ρ' S w' H' ∧ Rep D ρ' S w' v u ∧ Step D H.length ρ S H w ρ' S H' w'

theorem tyE_ok {cx : Cx K} {e : TypeId} {c : K.U} (h : tyE cx e = some c) : ArrT cx.D c e 0 := by
  intro t ht
  unfold tyE at h
  split at h
  · split at h
    · rename_i hel
      simp only [Option.some.injEq] at h; subst h
      unfold elOk at hel
      rw [ht] at hel
      exact ⟨(beq_iff_eq.1 hel).symm, rfl⟩
    · cases h
  · cases h
theorem selfNp_boxT {T : TypeId} {h : Nat} {cs : List (AV K)} (hn : npHead cs = false) : BoxT D (selfNp (D.selfT == some T) h cs) T := by
  intro hh
  unfold selfNp at hh
  split at hh
  · cases hb : (D.selfT == some T)
    · rw [hb] at hh; cases hh
    · simpa using hb
  · rw [hn] at hh; cases hh
theorem selfNp_rep {b : Bool} {h : Nat} {cs : List (AV K)} {vs : List Value} (hr : Reps D ρ S w cs vs) : Reps D ρ S w (selfNp b h cs) vs := by
  unfold selfNp
  split
  · obtain ⟨u, t, rfl, h1, h2⟩ := hr.uncons
    cases h1
    cases b
    · exact .cons .nilp h2
    · exact .cons .np0 h2
  · exact hr
theorem box_does {P : Program} (hs : HeapSat D ρ S w H) {cs : List (AV K)} {vs : Array Value} {T : TypeId} (hr : Reps D ρ S w cs vs.toList) (hT : BoxT D cs T) {s : Sem Next}
    (hrun : s.run P w = .ok (.value (.pointer (some ⟨w.heap.size, 0, none⟩))) (w.alloc (.cells vs T))) : Does D P ρ S H w s (.ptr H.length 0) (H ++ [.box cs]) := by
  have hold : ∀ k, k < w.heap.size → (w.alloc (.cells vs T)).heap[k]? = w.heap[k]? := fun k hk => heap_push_old hk
  have hpre : ∀ (h : Nat) r, ρ[h]? = some r → (ρ ++ [.pointer (some ⟨w.heap.size, 0, none⟩)])[h]? = some r := fun _ _ h => get_pre h
  refine ⟨_, _, _, ρ ++ [.pointer (some ⟨w.heap.size, 0, none⟩)], hrun, .inl rfl, hs.new (by simp) hold ?_ ?_, .ptr ?_, Step.new hs (by simp) hold ?_ rfl rfl rfl⟩
  · exact ⟨_, vs, T, rfl, heap_push_new _ _, hr.mono (fun _ h => h) (fun b hb => hold b (hs.slt b hb)) hpre, hT⟩
  · intro b hb; simp [Foot, blkOf] at hb; subst hb; simp
  · rw [List.getElem?_append_right (by rw [hs.len]; exact Nat.le_refl _)]; simp [hs.len]
  · intro b hb; simp [Foot, blkOf] at hb; omega
def putSeg (vs : List Value) (off : Nat) : List Value → List Value
  | [] => vs
  | v :: r => putSeg (vs.set off v) (off + 1) r
theorem putSeg_length (xs : List Value) : ∀ (vs : List Value) (off : Nat), (putSeg vs off xs).length = vs.length := by
  induction xs with
  | nil => intro vs off; rfl
  | cons x r ih => intro vs off; simp [putSeg, ih]
theorem Reps.putSeg {l : List (AV K)} {xs : List Value} (h : Reps D ρ S w l xs) : ∀ {cs : List (AV K)} {vs : List Value} (off : Nat), Reps D ρ S w cs vs → Reps D ρ S w (setCells cs off l) (V.putSeg vs off xs) := by
  induction l generalizing xs with
  | nil => intro cs vs off hc; rw [h.nil_iff]; exact hc
  | cons v r ih =>
    intro cs vs off hc
    obtain ⟨x, t, rfl, hx, ht⟩ := h.uncons
    exact ih ht (off + 1) (hc.set hx)
theorem putSeg_out (xs : List Value) : ∀ (vs : List Value) (off k : Nat), (k < off ∨ off + xs.length ≤ k) → (putSeg vs off xs)[k]? = vs[k]? := by
  induction xs with
  | nil => intro vs off k _; rfl
  | cons x r ih =>
    intro vs off k h
    simp only [List.length_cons] at h
    rw [putSeg, ih _ _ _ (by omega), List.getElem?_set, if_neg (by omega)]

theorem storeCells_does {P : Program} {b o : Nat} {T : TypeId} {fr : Nat × Nat} : ∀ (xs : List Value) (i : Nat) (vs : Array Value) (w : World), w.heap[b]? = some (.cells vs T fr) → o + i + xs.length ≤ vs.size →
    (∀ k, o + i ≤ k → k < o + i + xs.length → ¬ (fr.1 ≤ k ∧ k < fr.2)) → (∀ x ∈ xs, x.oneCell' = true) →
    ∃ w' vs', (storeCells ⟨b, o, none⟩ xs i).run P w = .ok () w' ∧ w'.heap[b]? = some (.cells vs' T fr) ∧ vs'.toList = putSeg vs.toList (o + i) xs ∧ w'.heap.size = w.heap.size ∧ (∀ k, k ≠ b → w'.heap[k]? = w.heap[k]?) ∧
      w'.os = w.os ∧ w'.tape = w.tape ∧ w'.output = w.output
  | [], i, vs, w, hb, _, _, _ => ⟨w, vs, rfl, hb, rfl, rfl, fun _ _ => rfl, rfl, rfl, rfl⟩
  | x :: r, i, vs, w, hb, hsz, hfr, h1 => by
    simp only [List.length_cons] at hsz hfr
    have hc : w.cell? ⟨b, o + i, none⟩ = some vs[o + i] := by simp [World.cell?, hb]
    have hf : w.frozen? ⟨b, o + i, none⟩ = false := by
      have := hfr (o + i) (Nat.le_refl _) (by omega)
      simp only [World.frozen?, hb]
      simpa using this
    have hlt : b < w.heap.size := (Array.getElem?_eq_some_iff.1 hb).1
    have hset : (w.setCell ⟨b, o + i, none⟩ x).heap[b]? = some (.cells (vs.setIfInBounds (o + i) x) T fr) := by
      simp [World.setCell, Array.getElem?_modify, hb]
    have hst : (store ⟨b, o + i, none⟩ x).run P w = .ok () (w.setCell ⟨b, o + i, none⟩ x) := by
      rw [run_store P w _ x .plain (h1 x (by simp))]
      simp [hc, hf]
    obtain ⟨w', vs', e1, e2, e3, e4, e5, e6, e7, e8⟩ := storeCells_does (P := P) (b := b) (o := o) (T := T) (fr := fr) r (i + 1) _ _ hset (by simp; omega) (fun k hk hk' => hfr k (by omega) (by omega)) (fun y hy => h1 y (by simp [hy]))
    refine ⟨w', vs', ?_, e2, ?_, ?_, fun k hk => ?_, e6, e7, e8⟩
    · simp only [storeCells, Sem.run_bind, add_plain, hst, Result.andThen_ok, e1]
    · rw [e3, putSeg]; simp [Nat.add_assoc]
    · rw [e4]; simp [World.setCell]
    · rw [e5 k hk]; simp [World.setCell, Array.getElem?_modify, Ne.symm hk]

theorem storeVar_run {P : Program} {t : TypeId} {n : Nat} {a : Addr} {X : Value} (hn : szOf P t = some n) (hX : X.cells.size = n) : (storeVar t a X).run P w = (storeCells a X.cells.toList).run P w := by
  simp [storeVar, szOf_run hn, hX]


theorem putSeg_get (xs : List Value) : ∀ (vs : List Value) (off k : Nat), off + xs.length ≤ vs.length → (putSeg vs off xs)[k]? = if off ≤ k ∧ k < off + xs.length then xs[k - off]? else vs[k]? := by
  induction xs with
  | nil => intro vs off k _; rw [if_neg (by first | omega | simp)]; rfl
  | cons x r ih =>
    intro vs off k h
    simp only [List.length_cons] at h
    rw [putSeg, ih _ _ _ (by simp; omega)]
    by_cases h1 : off + 1 ≤ k ∧ k < off + 1 + r.length
    · rw [if_pos h1, if_pos (by simp; omega)]
      rw [show k - off = (k - (off + 1)) + 1 by omega]; rfl
    · rw [if_neg h1]
      by_cases h2 : k = off
      · subst h2; rw [if_pos (by simp)]
        rw [List.getElem?_set]; simp; omega
      · rw [if_neg (by simp; omega), List.getElem?_set, if_neg (by omega)]

theorem seg_putSeg {vs' : Array Value} {vs : Array Value} {p off n : Nat} {xs : List Value} (h : vs'.toList = putSeg vs.toList (p + off) xs) (h1 : off + xs.length ≤ n) (h2 : p + n ≤ vs.size) :
    seg vs' p n = putSeg (seg vs p n) off xs := by
  apply List.ext_getElem?
  intro k
  have hl : (seg vs p n).length = n := by simp [seg]; omega
  rw [putSeg_get _ _ _ _ (by rw [hl]; exact h1)]
  simp only [seg, List.getElem?_take, List.getElem?_drop, h]
  rw [putSeg_get _ _ _ _ (by simp; omega)]
  by_cases hk : k < n
  · rw [if_pos hk, if_pos hk]
    by_cases hc : off ≤ k ∧ k < off + xs.length
    · rw [if_pos (by omega), if_pos hc]; congr 1; omega
    · rw [if_neg (by omega), if_neg hc]
  · rw [if_neg hk, if_neg hk, if_neg (by omega)]

theorem seg_putSeg_out {vs' : Array Value} {vs : Array Value} {p q n : Nat} {xs : List Value} (h : vs'.toList = putSeg vs.toList q xs) (h1 : p + n ≤ q ∨ q + xs.length ≤ p) : seg vs' p n = seg vs p n := by
  apply List.ext_getElem?
  intro k
  simp only [seg, List.getElem?_take, List.getElem?_drop, h]
  by_cases hk : k < n
  · rw [if_pos hk, if_pos hk, putSeg_out _ _ _ _ (by omega)]
  · rw [if_neg hk, if_neg hk]
theorem Does.behind {P : Program} {ρ1 : List Value} {H1 H' : List (Ob K)} (h : Step D H.length ρ S H w ρ1 S H1 w) (hl : H.length ≤ H1.length) {s : Sem Next} {v : AV K} (d : Does D P ρ1 S H1 w s v H') : Does D P ρ S H w s v H' := by
  obtain ⟨n, u, w', ρ', e1, e2, e3, e4, e5⟩ := d
  exact ⟨n, u, w', ρ', e1, e2, e3, e4, h.trans (e5.weaken hl)⟩

theorem store_cells {P : Program} (hs : HeapSat D ρ S w H) {t : TypeId} {n h off : Nat} {cs xs : List (AV K)} {X A : Value} (hn : szOf P t = some n) (hxn : xs.length = n) (h1 : ∀ x ∈ X.cells.toList, x.oneCell' = true)
    (ho : H[h]? = some (.box cs)) (hoff : off + n ≤ cs.length) (hc : Reps D ρ S w xs X.cells.toList) (hA : Rep D ρ S w (.ptr h off) A) (hnp : npHead (setCells cs off xs) = true → npHead cs = true) :
    Does D P ρ S H w (do Instr.storeAt t A X; pure .skip) .any (H.set h (.box (setCells cs off xs))) := by
  obtain ⟨b, rfl, hb⟩ := rep_ptr hA
  obtain ⟨b', vs, T, e, hblk, hreps, hbT⟩ := hs.ob _ _ _ ho hb
  simp only [Value.pointer.injEq, Option.some.injEq, Addr.mk.injEq] at e
  obtain ⟨rfl, -, -⟩ := e
  have hlen : X.cells.toList.length = n := by rw [← hc.1, hxn]
  have hvs : cs.length = vs.size := by simpa using hreps.1
  obtain ⟨w', vs', e1, e2, e3, e4, e5, e6, e7, e8⟩ := storeCells_does (P := P) (b := b) (o := off) X.cells.toList 0 vs w hblk (by omega) (fun k _ _ hh => by have := hh.2; simp at this) h1
  rw [Nat.add_zero] at e3
  have hnS : ¬ S b := (hs.lt b ⟨h, _, _, ho, rfl, hb, rfl⟩).2
  refine ⟨.skip, undef, w', ρ, ?_, .inr ⟨rfl, rfl⟩, hs.turn ho rfl hb rfl e4 e5 (fun _ h => h) ?_, .any _, Step.turn hs ho rfl hb rfl e4 e5 (fun _ h => h) e6 e7 e8⟩
  · have : (storeVar t ⟨b, off, none⟩ X).run P w = .ok () w' := by rw [storeVar_run hn (by simpa using hlen)]; exact e1
    simp [Instr.storeAt, Instr.sureAddr, this]
  · refine ⟨b, vs', T, rfl, e2, ?_, fun h => hbT (hnp h)⟩
    rw [e3]
    exact (hc.putSeg off hreps).mono (fun _ h => h) (fun k hk => e5 k (fun e => by subst e; exact hnS hk)) (fun _ _ h => h)

theorem store_ep {P : Program} (hD : CodOk D) (hs : HeapSat D ρ S w H) {t : TypeId} {n h i off : Nat} {c : K.U} {l : List (K.El c)} {y : K.El c} {x : AV K} {X A : Value} (hn : szOf P t = some n) (hxn : x.toCells.length = n)
    (h1 : x.toCells.all AV.one = true) (ho : H[h]? = some (.arr c l)) (hoff : off + n ≤ K.sz c) (hcl : closeds x.toCells = true) (hdec : D.dec c (setCells (D.cells c (l.getD i (K.zero c))) off x.toCells) = some (y, true))
    (hx : Rep D ρ S w x X) (hA : Rep D ρ S w (.ep h (K.sz c) i off) A) : Does D P ρ S H w (do Instr.storeAt t A X; pure .skip) .any (H.set h (.arr c (l.set i y))) := by
  obtain ⟨b, o, m, cp, rfl, hb, hi⟩ := rep_ep hA
  rcases ob_arr hs ho hb with ⟨e, -⟩ | ⟨b', o', cap, vs, T, fr, e, hblk, ⟨hcap, hAT⟩, hsz, hfr, hall⟩
  · cases e
  · simp only [Value.slice.injEq, Option.some.injEq, Addr.mk.injEq] at e
    obtain ⟨⟨rfl, rfl, -⟩, rfl, rfl⟩ := e
    have hc := rep_cells hx (one_known h1)
    have hlen : X.cells.toList.length = n := by rw [← hc.1, hxn]
    have hmul : (i + 1) * K.sz c ≤ cp * K.sz c := Nat.mul_le_mul_right _ (by omega)
    rw [Nat.add_mul, Nat.one_mul] at hmul
    obtain ⟨w', vs', e1, e2, e3, e4, e5, e6, e7, e8⟩ := storeCells_does (P := P) (b := b) (o := o + i * K.sz c + off) X.cells.toList 0 vs w hblk (by omega) (fun k hk hk' => hfr k (by omega) (by omega)) (reps_one hc h1)
    rw [Nat.add_zero] at e3
    have hnS : ¬ S b := (hs.lt b ⟨h, _, _, ho, rfl, hb, rfl⟩).2
    refine ⟨.skip, undef, w', ρ, ?_, .inr ⟨rfl, rfl⟩, hs.turn ho rfl hb rfl e4 e5 (fun _ h => h) ?_, .any _, Step.turn hs ho rfl hb rfl e4 e5 (fun _ h => h) e6 e7 e8⟩
    · have : (storeVar t ⟨b, o + i * K.sz c + off, none⟩ X).run P w = .ok () w' := by rw [storeVar_run hn (by simpa using hlen)]; exact e1
      simp [Instr.storeAt, Instr.sureAddr, this]
    · have hsize : vs'.size = vs.size := by have := congrArg List.length e3; rw [putSeg_length] at this; simpa using this
      refine .inr ⟨b, o, cp, vs', T, fr, by simp, e2, ⟨by simpa using hcap, hAT⟩, by omega, hfr, fun k z hz => ?_⟩
      have hmono : ∀ {l : List (AV K)} {us : List Value}, Reps D ρ S w l us → Reps D ρ S w' l us := fun h => h.mono (fun _ h => h) (fun k hk => e5 k (fun e => by subst e; exact hnS hk)) (fun _ _ h => h)
      rcases get_set hz with ⟨rfl, rfl, -⟩ | ⟨hk, hz⟩
      · have hold := hall k _ (getD_some (K.zero c) hi)
        rw [seg_putSeg e3 (by rw [hlen]; exact hoff) (by omega)]
        exact hmono (hD.dec c _ _ hdec ρ S w _ (hc.putSeg off hold))
      · have hkl : k < l.length := (List.getElem?_eq_some_iff.1 hz).1
        rw [seg_putSeg_out e3]
        · exact hmono (hall k z hz)
        · rw [hlen]
          rcases Nat.lt_or_ge k i with hlt | hge
          · have : (k + 1) * K.sz c ≤ i * K.sz c := Nat.mul_le_mul_right _ (by omega)
            rw [Nat.add_mul, Nat.one_mul] at this
            left; omega
          · have : (i + 1) * K.sz c ≤ k * K.sz c := Nat.mul_le_mul_right _ (by omega)
            rw [Nat.add_mul, Nat.one_mul] at this
            right; omega

/-! ### new slices -/
theorem arr_does {P : Program} (hs : HeapSat D ρ S w H) {c : K.U} {l : List (K.El c)} {vs : Array Value} {T : TypeId} {fr : Nat × Nat} {cap : Nat} {w' : World} (hw : w'.heap = w.heap.push (.cells vs T fr))
    (e1 : w'.os = w.os) (e2 : w'.tape = w.tape) (e3 : w'.output = w.output) (hcap : l.length ≤ cap) (hAT : ArrT D c T 0) (hsz : cap * K.sz c ≤ vs.size) (hfr : ∀ k, k < cap * K.sz c → ¬ (fr.1 ≤ k ∧ k < fr.2))
    (hall : ∀ i x, l[i]? = some x → Reps D ρ S w (D.cells c x) (seg vs (i * K.sz c) (K.sz c))) {s : Sem Next}
    (hrun : s.run P w = .ok (.value (.slice (some ⟨w.heap.size, 0, none⟩) l.length cap)) w') : Does D P ρ S H w s (.sl H.length) (H ++ [.arr c l]) := by
  have hold : ∀ k, k < w.heap.size → w'.heap[k]? = w.heap[k]? := fun k hk => by rw [hw]; exact heap_push_old hk
  have hpre : ∀ (h : Nat) r, ρ[h]? = some r → (ρ ++ [.slice (some ⟨w.heap.size, 0, none⟩) l.length cap])[h]? = some r := fun _ _ h => get_pre h
  have hsize : w'.heap.size = w.heap.size + 1 := by rw [hw]; simp
  refine ⟨_, _, _, ρ ++ [.slice (some ⟨w.heap.size, 0, none⟩) l.length cap], hrun, .inl rfl, hs.new (by omega) hold ?_ ?_, .sl ?_, Step.new hs (by omega) hold ?_ e1 e2 e3⟩
  · refine .inr ⟨_, 0, cap, vs, T, fr, rfl, by rw [hw]; exact heap_push_new _ _, ⟨hcap, hAT⟩, by omega, fun k _ hk => hfr k (by omega), fun i x hx => ?_⟩
    rw [Nat.zero_add]
    exact (hall i x hx).mono (fun _ h => h) (fun b hb => hold b (hs.slt b hb)) hpre
  · intro b hb; simp [Foot, blkOf] at hb; omega
  · rw [List.getElem?_append_right (by rw [hs.len]; exact Nat.le_refl _)]; simp [hs.len]
  · intro b hb; simp [Foot, blkOf] at hb; omega
theorem read_does {P : Program} (hs : HeapSat D ρ S w H) {c : K.U} {l : List (K.El c)} {vs : Array Value} {T : TypeId} {fr : Nat × Nat} {w' : World} (hw : w'.heap = w.heap.push (.cells vs T fr))
    (e1 : w'.os = w.os) (e2 : w'.tape = w.tape) (e3 : w'.output = w.output)
    (hall : ∀ i x, l[i]? = some x → Reps D ρ S w (D.cells c x) (seg vs (i * K.sz c) (K.sz c))) :
    HeapSat D ρ (fun b => S b ∨ b = w.heap.size) w' H ∧ Rep D ρ (fun b => S b ∨ b = w.heap.size) w' (.dsl c l) (.slice (some ⟨w.heap.size, 0, none⟩) l.length l.length) ∧ Step D H.length ρ S H w ρ (fun b => S b ∨ b = w.heap.size) H w' := by
  have hold : ∀ k, k < w.heap.size → w'.heap[k]? = w.heap[k]? := fun k hk => by rw [hw]; exact heap_push_old hk
  have hnew : w'.heap[w.heap.size]? = some (.cells vs T fr) := by rw [hw]; exact heap_push_new _ _
  have hsize : w'.heap.size = w.heap.size + 1 := by rw [hw]; simp
  have hs2 := hs.world (w' := w') (by omega) (fun b hb => hold b (hs.lt b hb).1) (fun b hb => hold b (hs.slt b hb))
  have hO : ∀ b, Own D w' ρ H b → Own D w ρ H b := fun b hb => hb.old fun b hb => hold b (hs.lt b hb).1
  refine ⟨⟨hs.len, fun k o r g1 g2 => (hs2.ob k o r g1 g2).mono (fun _ h => .inl h) (fun _ _ => rfl) (fun _ _ h => h) (fun _ _ _ => rfl), hs2.dist, fun b hb => ⟨(hs2.lt b hb).1, fun hS => ?_⟩, fun b hb => ?_, D.base.mono (fun _ h => .inl h) (fun _ _ => rfl) hs2.base⟩, ?_,
    ⟨e1, e2, e3, by omega, fun b hb _ => hold b hb, fun b hb => .inl (hO b hb), fun _ h => .inl h, fun b hb => ?_, fun _ _ => rfl⟩⟩
  · rcases hS with h | h
    · exact (hs.lt b (hO b hb)).2 h
    · have := (hs.lt b (hO b hb)).1; omega
  · rcases hb with h | h
    · have := hs.slt b h; omega
    · omega
  · refine .dsl (fun i => seg vs (i * K.sz c) (K.sz c)) (.inr rfl) (Nat.le_refl _) (fun i x hx => (hall i x hx).1.symm) (fun i _ => ?_) (fun i x hx j v y hv hy => ?_)
    · rw [Nat.zero_add]
      intro j v hv
      simp only [seg, List.getElem?_take, List.getElem?_drop] at hv
      split at hv
      · simp [World.cell?, hnew]; simpa using hv
      · cases hv
    · exact ((hall i x hx).2 j v y hv hy).mono (fun _ h => .inl h) (fun b hb => hold b (hs.slt b hb)) (fun _ _ h => h)
  · rcases hb with h | h
    · exact .inl h
    · exact .inr (.inr (by omega))

theorem seg_made {z : Array Value} {n i sz : Nat} (hz : z.size = sz) (h : i < n) : seg (madeCells z (n * sz)) (i * sz) sz = z.toList := by
  have hmul : (i + 1) * sz ≤ n * sz := Nat.mul_le_mul_right _ h
  rw [Nat.add_mul, Nat.one_mul] at hmul
  apply List.ext_getElem?
  intro k
  simp only [seg, List.getElem?_take, List.getElem?_drop, madeCells, Array.toList_map, Array.toList_range, List.getElem?_map]
  by_cases hk : k < sz
  · rw [if_pos hk, List.getElem?_range (by omega)]
    simp only [Option.map_some]
    rw [show (i * sz + k) % z.size = k by rw [hz, Nat.add_comm, Nat.add_mul_mod_self_right, Nat.mod_eq_of_lt hk]]
    rw [List.getElem?_eq_getElem (by simpa [hz] using hk)]
    rw [getElem!_pos z k (by omega)]
    simp
  · rw [if_neg hk, List.getElem?_eq_none (by simp; omega)]

end Go.V
