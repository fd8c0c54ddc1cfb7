/-
  ONE OPERATION THAT LEAVES THE WORLD AS IT IS.
-/
import Derived.Test.YtjnemekhocfmlaaGreatXWpure
set_option linter.unusedVariables false
namespace Go.V
open Go
variable {K : Uni} {ρ : List Value} {S : Nat → Prop} {w : World}

theorem pureV_sound {cx : Cx K} {H : List (Ob K)} (hD : CodOk cx.D) (hs : HeapSat cx.D ρ S w H) {ev : Operand → AV K} {ρe : Operand → Value} (hev : ∀ x, Rep cx.D ρ S w (ev x) (ρe x)) {o : Oper} {v : AV K} {c : Bool}
    (h : pureV cx ev H o.op = some (v, c)) (hc : c = true) : ∃ u, (execOp ρe o).run cx.P w = .ok (.value u) w ∧ Rep cx.D ρ S w v u := by
  unfold pureV at h
  unfold execOp
  split at h
  all_goals first | (cases h; done) | (rename_i hop; rw [hop]; dsimp only)
  · -- move
    simp only [Option.some.injEq, Prod.mk.injEq] at h; obtain ⟨rfl, rfl⟩ := h
    exact ⟨_, rfl, hev _⟩
  · simp only [Option.some.injEq, Prod.mk.injEq] at h; obtain ⟨rfl, rfl⟩ := h
    exact ⟨_, rfl, hev _⟩
  · -- binOp
    obtain ⟨u, hu, hr⟩ := binV_sound h hc (hev _) (hev _)
    exact ⟨u, run_upto (f := .value) hu, hr⟩
  · -- unOp
    obtain ⟨u, hu, hr⟩ := unV_sound (P := cx.P) h (hev _)
    exact ⟨u, run_upto (f := .value) hu, hr⟩
  · -- convert
    rename_i src dst x
    have hx := hev x
    split at h
    · rename_i d k k' n hsrc hd he
      rw [he] at hx
      simp only [Option.some.injEq, Prod.mk.injEq] at h; obtain ⟨rfl, rfl⟩ := h
      rw [rep_int hx]
      refine ⟨_, run_upto (f := .value) (a := .int k (k.wrap n)) ?_, .int _ _⟩
      simp [convert, underlying_run hd, underlying_run hsrc, Conv.intToInt]
    · rename_i d s hsrc hd he
      rw [he] at hx
      simp only [Option.some.injEq, Prod.mk.injEq] at h; obtain ⟨rfl, rfl⟩ := h
      rw [rep_str hx]
      refine ⟨_, run_upto (f := .value) (a := .string ⟨s.toArray⟩) ?_, .str _⟩
      simp [convert, underlying_run hd, underlying_run hsrc]
    · rename_i e h1 h2 hns
      split at h
      · rename_i cc h3 hty
        split at h
        · rename_i f g l hb hl
          simp only [Option.some.injEq, Prod.mk.injEq] at h; obtain ⟨rfl, rfl⟩ := h
          exact ⟨_, run_upto (f := .value) (toStr_run hD h1 h2 h3 hb (elems_at hD hs hl hx)), .str _⟩
        · cases h
      · cases h
    · cases h
  · -- extract
    rename_i t i
    have hx := hev t
    split at h
    · rename_i l he
      rw [he] at hx
      simp only [Option.map_eq_some_iff, Prod.mk.injEq] at h
      obtain ⟨y, hy, rfl, rfl⟩ := h
      generalize ρe t = X at hx ⊢
      cases hx with
      | tup hl hr =>
        rename_i vs
        have hi : i < vs.length := by rw [← hl]; exact (List.getElem?_eq_some_iff.1 hy).1
        refine ⟨vs[i], run_upto (f := .value) ?_, hr i y _ hy (List.getElem?_eq_getElem hi)⟩
        simp [Instr.extract, hi]
    · cases h
  · -- fieldAddr
    rename_i s x f
    simp only [Option.map_eq_some_iff, Prod.mk.injEq] at h
    obtain ⟨y, hy, rfl, rfl⟩ := h
    obtain ⟨u, hu, hr⟩ := fieldAddrV_sound hy (hev x)
    exact ⟨u, run_upto (f := .value) hu, hr⟩
  · -- load
    rename_i t p
    split at h
    · rename_i y hy
      simp only [Option.some.injEq, Prod.mk.injEq] at h
      obtain ⟨rfl, rfl⟩ := h
      obtain ⟨u, hu, hr⟩ := loadV_sound hD hs hy (hev p)
      exact ⟨u, run_upto (f := .value) hu, hr⟩
    · subst hc
      obtain ⟨u, hu, hr⟩ := loadO_sound hD hs h (hev p)
      exact ⟨u, run_upto (f := .value) hu, hr⟩
  · -- indexAddr
    rename_i t x i
    obtain ⟨u, hu, hr⟩ := indexAddrV_sound hD hs h hc (hev x) (hev i)
    exact ⟨u, run_upto (f := .value) hu, hr⟩
  · -- index
    rename_i t x i
    have hx := hev x
    have hi := hev i
    split at h
    · rename_i s k n hu he hi'
      rw [he] at hx; rw [hi'] at hi
      simp only [Option.some.injEq, Prod.mk.injEq] at h; obtain ⟨rfl, rfl⟩ := h
      rw [rep_str hx, rep_int hi]
      obtain ⟨h1, h2, h3⟩ := inB_spec hc
      refine ⟨_, run_upto (f := .value) (a := .int .u8 ((s.getD n.toNat 0).toNat : Int)) ?_, .int _ _⟩
      have hg : (ByteArray.mk s.toArray)[n.toNat]? = some (s.getD n.toNat 0) := by
        rw [getElem?_pos (c := ByteArray.mk s.toArray) (i := n.toNat) (h := by simpa [ByteArray.size] using h3)]
        simp [List.getD, h3, ByteArray.getElem_eq_getElem_data]
      simp [Instr.index, asIntOf, underlying_run hu, h1, hg]
    · cases h
  · -- slice
    rename_i t x lo hi
    split at h
    · rename_i r hr0
      simp only [Option.some.injEq] at h; subst h
      obtain ⟨u, hu, hr⟩ := sliceV_sound hD hs hr0 hc (hev x) (opt_rep hev lo) (opt_rep hev hi)
      exact ⟨u, run_upto (f := .value) hu, hr⟩
    · split at h
      · rename_i y _
        split at h
        · obtain ⟨u, hu, hr⟩ := viewV_sound hs h hc (hev x) (opt_rep hev lo) (opt_rep hev (some y))
          exact ⟨u, run_upto (f := .value) hu, hr⟩
        · cases h
      · cases h
  · -- nilCheck
    rename_i x
    have hx := hev x
    split at h
    · rename_i hh o he
      simp only [Option.some.injEq, Prod.mk.injEq] at h; obtain ⟨rfl, rfl⟩ := h
      rw [he] at hx
      obtain ⟨b, e, hb⟩ := rep_ptr hx
      rw [e]; exact ⟨_, rfl, .ptr hb⟩
    · rename_i c' y o he
      simp only [Option.some.injEq, Prod.mk.injEq] at h; obtain ⟨rfl, rfl⟩ := h
      rw [he] at hx
      obtain ⟨b, o', vs, e, -⟩ := rep_rp hx
      rw [e] at hx ⊢; exact ⟨_, rfl, hx⟩
    · rename_i hh s i o he
      simp only [Option.some.injEq, Prod.mk.injEq] at h; obtain ⟨rfl, rfl⟩ := h
      rw [he] at hx
      obtain ⟨b, o', n, cp, e, hb, hi⟩ := rep_ep hx
      rw [e] at hx ⊢; exact ⟨_, rfl, hx⟩
    · cases h
  · -- makeFunc
    rename_i f first caps
    split at h
    · rename_i hf
      simp only [Option.some.injEq, Prod.mk.injEq] at h; obtain ⟨rfl, rfl⟩ := h
      have h0 : first = #[] := by simpa using hf
      subst h0
      have := reps_map hev caps.toList
      refine ⟨_, run_upto (f := .value) (a := .func (.func f) #[] (caps.toList.map ρe).toArray) ?_, .fn this.1 this.2⟩
      simp [Instr.makeFunc]; cases caps; simp
    · cases h
  · -- len
    rename_i args argTypes
    split at h
    · rename_i x t hx ht
      have hxx := hev x
      have ea : args = #[x] := by rw [← Array.toArray_toList (xs := args), hx]
      have et : argTypes = #[t] := by rw [← Array.toArray_toList (xs := argTypes), ht]
      subst ea; subst et
      have key : ∀ (n : Nat), (Builtin.len_ #[t] o.type #[ρe x]).run cx.P w = .ok (.int .i64 (n : Int)) w →
          ((do let d ← resolve ρe { callee := .builtin .len, args := #[x], argTypes := #[t] } o.type; invoke d.target d.args : Sem Next)).run cx.P w = .ok (.value (.int .i64 (n : Int))) w := fun n hn => by
        simp [resolve, invoke, builtin, hn]
      split at h
      · rename_i s hu he
        rw [he] at hxx
        simp only [Option.some.injEq, Prod.mk.injEq] at h; obtain ⟨rfl, rfl⟩ := h
        exact ⟨_, key _ (by rw [rep_str hxx]; simp [Builtin.len_, underlying_run hu, goInt, str_size]), .int _ _⟩
      · rename_i e hu he
        rw [he] at hxx
        simp only [Option.some.injEq, Prod.mk.injEq] at h; obtain ⟨rfl, rfl⟩ := h
        refine ⟨_, key 0 ?_, .int _ _⟩
        generalize ρe x = X at hxx ⊢
        cases hxx
        simp [Builtin.len_, underlying_run hu, goInt]
      · rename_i e c' l hu he
        rw [he] at hxx
        simp only [Option.some.injEq, Prod.mk.injEq] at h; obtain ⟨rfl, rfl⟩ := h
        exact ⟨_, key _ (len_slice hu (dsl_at hD hxx)), .int _ _⟩
      · rename_i e v1 v2 v3 v4 hu he
        rw [he] at hxx
        simp only [Option.some.injEq, Prod.mk.injEq] at h; obtain ⟨rfl, rfl⟩ := h
        refine ⟨_, key (v4 - v3) ?_, .int _ _⟩
        generalize ρe x = X at hxx ⊢
        cases hxx
        simp [Builtin.len_, underlying_run hu, goInt]
      · rename_i e hh hu he
        rw [he] at hxx
        split at h
        · rename_i c' l hob
          simp only [Option.some.injEq, Prod.mk.injEq] at h; obtain ⟨rfl, rfl⟩ := h
          exact ⟨_, key _ (len_slice hu (arr_at hD hs hob (rep_sl hxx).1)), .int _ _⟩
        · rename_i c' l hob
          simp only [Option.some.injEq, Prod.mk.injEq] at h; obtain ⟨rfl, rfl⟩ := h
          have hT : Tree cx.D w c' l (ρe x) := hs.ob _ _ _ hob (rep_sl hxx).1
          obtain ⟨a, cp, e⟩ := tree_slice hT
          exact ⟨_, key _ (by rw [e]; simp [Builtin.len_, underlying_run hu, goInt]), .int _ _⟩
        · cases h
      · cases h
    · cases h
  all_goals
    rename_i args argTypes
    split at h
    · rename_i x y hxy
      have hxx := hev x
      have hyy := hev y
      have ea : args = #[x, y] := by rw [← Array.toArray_toList (xs := args), hxy]
      subst ea
      split at h
      · rename_i k a k' b he1 he2
        rw [he1] at hxx; rw [he2] at hyy
        split at h
        · rename_i hk; subst hk
          simp only [Option.some.injEq, Prod.mk.injEq] at h; obtain ⟨rfl, rfl⟩ := h
          first
            | (refine ⟨_, ?_, .int _ _⟩; simp [resolve, invoke, builtin, rep_int hxx, rep_int hyy, minmax_run.1]; done)
            | (refine ⟨_, ?_, .int _ _⟩; simp [resolve, invoke, builtin, rep_int hxx, rep_int hyy, minmax_run.2]; done)
        · cases h
      · cases h
    · cases h

end Go.V
