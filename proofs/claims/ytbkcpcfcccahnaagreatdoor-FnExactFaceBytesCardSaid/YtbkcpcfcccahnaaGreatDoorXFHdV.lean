/-
  The contracts of the program's decimals and of strings.Split at a dot.
-/
import Derived.Test.YtbkcpcfcccahnaaGreatDoorXFhand4
import Derived.Shelf.Lay
import Derived.Shelf.Strconv.Itoa4
import Derived.Shelf.Strconv.ParseIntPublic10
import Derived.Shelf.Strings.Split
import Derived.Lib.AppendIntMem
import Derived.Lib.ParseIntBTie
import Derived.Lib.LaidTab
import Derived.Stop.IfaceNil
import Derived.WalkKit
import Derived.BigCall
import Derived.Ground.NamesProg
import Derived.Test.YtbkcpcfcccahnaaGreatDoorProg
set_option linter.unusedVariables false
noncomputable def con_i_decimal (m : Int → Option (List UInt8)) : Go.V.ConD Go.V.K := { f := 129, sh := ⟨[.int .i64], []⟩, R := List UInt8, run := fun x => m x.1.1, dflt := default, out := fun r => (Go.V.Sh.enc Go.V.D (.str) r, Go.V.OSh.encs Go.V.D [] ()) }
noncomputable def con_i_readDecimal (m : List UInt8 → Option (Int × Bool)) : Go.V.ConD Go.V.K := { f := 106, sh := ⟨[.str], []⟩, R := Int × Bool, run := fun x => m x.1.1, dflt := default, out := fun r => (Go.V.Sh.enc Go.V.D (.tup [.int .i64, .bool]) (r.1, (r.2, ())), Go.V.OSh.encs Go.V.D [] ()) }
noncomputable def con_strings_Split (m : List UInt8 → List UInt8 → Option (List (List UInt8))) : Go.V.ConD Go.V.K := { f := 105, sh := ⟨[.str, .str], []⟩, R := List (List UInt8), run := fun x => m x.1.1 x.1.2.1, dflt := default, out := fun r => (Go.V.Sh.enc Go.V.D (.dsl Go.V.U.str) r, Go.V.OSh.encs Go.V.D [] ()) }
namespace Go.Proofs
open Go.RowKit Go.Shelf Go.V Go.Lib Go.Sort
shelf_lay LaysM.n173 Nm 173 at Tryz as Tryz.laysFI
shelf_lay LaysC.n174 Nm 174 at Tryz as Tryz.laysPI
shelf_lay Lays.n146 Nm 146 at Tryz as Tryz.laysSplit
namespace Tryzh
theorem tab_of {S : Nat → Prop} {w : World} (hB : Go.V.D.base.inv S w) : Lib.TabIs Tryz.prog w "internal/strconv.uint64pow10" .u64 Lib.pow10Tab := by
  obtain ⟨-, -, ⟨T, fr, hT⟩, -⟩ := hB
  have hg : Tryz.prog.globalNamed "internal/strconv.uint64pow10" = some 5 := by kernel_rfl
  unfold Lib.TabIs World.var?
  rw [hg]
  simp [hT]
set_option maxRecDepth 100000 in
theorem decimal_calls (n : Int) (h0 : -9223372036854775808 ≤ n) (h1 : n ≤ 9223372036854775807) (w : World) (htab : Lib.TabIs Tryz.prog w "internal/strconv.uint64pow10" .u64 Lib.pow10Tab) :
    Calls Tryz.prog 129 #[.int .i64 n] w fun e w' => e = .returned (.string ⟨(Lib.itoa n).toArray⟩) ∧ Below w.heap.size w w' := by
  go_enter Tryz.func129, Tryz.ntmps129
  go_wp2_with (go_at_call 147; refine (Any.strconv_FormatInt_10 Tryz.laysFI n h0 h1 _ htab).mono ?_; rintro e w' ⟨rfl, k, os, rfl⟩)
  go_ret
  exact ⟨rfl, Lib.below_grow _ _ (Nat.le_refl _) _ _⟩
theorem tab_below {w w' : World} (h : Below w.heap.size w w') (htab : Lib.TabIs Tryz.prog w "internal/strconv.uint64pow10" .u64 Lib.pow10Tab) : Lib.TabIs Tryz.prog w' "internal/strconv.uint64pow10" .u64 Lib.pow10Tab :=
  Lib.tabBelow_of_tabIs htab w' h
theorem parse_range {s : List UInt8} {v : Int} (h : Lib.parseIntB 64 s = .ok v) : -9223372036854775808 ≤ v ∧ v ≤ 9223372036854775807 := by
  obtain ⟨a, b⟩ := Lib.parseIntB_bounds h
  have e : ((2 ^ (64 - 1) : Nat) : Int) = 9223372036854775808 := by decide
  rw [e] at a b
  omega
theorem str_eq_iff (a b : List UInt8) : (ByteArray.mk a.toArray = ByteArray.mk b.toArray) ↔ a = b := by
  constructor
  · intro h; have := congrArg (fun x => x.data.toList) h; simpa using this
  · intro h; rw [h]
set_option maxRecDepth 100000 in
theorem readDecimal_calls (s : List UInt8) (hl : s.length ≤ 281474976710656) (w : World) (htab : Lib.TabIs Tryz.prog w "internal/strconv.uint64pow10" .u64 Lib.pow10Tab)
    (ts tr : TypeId) (ps pr : Value) (hS : w.cell? ⟨1, 0, none⟩ = some (.iface ts ps)) (hR : w.cell? ⟨2, 0, none⟩ = some (.iface tr pr)) :
    Calls Tryz.prog 106 #[.string ⟨s.toArray⟩] w fun e w' => e = .returned (.tuple #[.int .i64 (M.readDec s).1, .bool (M.readDec s).2]) ∧ Below w.heap.size w w' := by
  have hsz : (ByteArray.mk s.toArray).size = s.length := List.size_toArray
  have hd : (ByteArray.mk s.toArray).data.toList = s := by simp
  cases hp : Lib.parseIntB 64 s with
  | ok v =>
    obtain ⟨v0, v1⟩ := parse_range hp
    by_cases he : Lib.itoa v = s
    · have hr : M.readDec s = (v, true) := by unfold M.readDec; rw [hp]; simp only; rw [if_pos he]
      rw [hr]
      go_enter Tryz.func106, Tryz.ntmps106
      go_wp2_with (go_at_call 128; refine (Any.strconv_ParseInt_10_at64_ok Tryz.laysPI ⟨s.toArray⟩ (by omega) v (by rw [hd]; exact hp) _).mono ?_; rintro e W1 ⟨rfl, hW⟩)
      have hb1 : Below w.heap.size w W1 := by
        rcases hW with rfl | ⟨t, rfl⟩
        · exact Below.refl _ _
        · exact Lib.bytesWorld_below _ _ _
      clear hW
      go_wp2_with (go_at_call 129; refine (decimal_calls v v0 v1 _ ?_).mono ?_)
      · exact tab_below hb1 htab
      rintro e W2 ⟨rfl, hb2⟩
      have hb : Below w.heap.size w W2 := hb1.trans (hb2.mono hb1.size)
      rw [he]
      go_wp2
      go_ret2
      exact ⟨rfl, hb⟩
    · have hr : M.readDec s = (0, false) := by unfold M.readDec; rw [hp]; simp only; rw [if_neg he]
      rw [hr]
      go_enter Tryz.func106, Tryz.ntmps106
      go_wp2_with (go_at_call 128; refine (Any.strconv_ParseInt_10_at64_ok Tryz.laysPI ⟨s.toArray⟩ (by omega) v (by rw [hd]; exact hp) _).mono ?_; rintro e W1 ⟨rfl, hW⟩)
      have hb1 : Below w.heap.size w W1 := by
        rcases hW with rfl | ⟨t, rfl⟩
        · exact Below.refl _ _
        · exact Lib.bytesWorld_below _ _ _
      clear hW
      go_wp2_with (go_at_call 129; refine (decimal_calls v v0 v1 _ ?_).mono ?_)
      · exact tab_below hb1 htab
      rintro e W2 ⟨rfl, hb2⟩
      have hb : Below w.heap.size w W2 := hb1.trans (hb2.mono hb1.size)
      have hne : (Lib.itoa v == s) = false := beq_eq_false_iff_ne.2 he
      go_wp2
      go_ret2
      exact ⟨rfl, hb⟩
  | «syntax» =>
    have hr : M.readDec s = (0, false) := by unfold M.readDec; rw [hp]
    rw [hr]
    go_enter Tryz.func106, Tryz.ntmps106
    go_wp2_with (go_at_call 128; refine (Any.strconv_ParseInt_10_at64_syntax Tryz.laysPI ⟨s.toArray⟩ (by omega) (by rw [hd]; exact hp) _ _ hS (Or.inr ⟨ts, ps, rfl⟩)).mono ?_; rintro e W1 ⟨N, rfl, -, -, hb⟩)
    go_wp2
    go_ret2
    exact ⟨rfl, hb⟩
  | range =>
    have hr : M.readDec s = (0, false) := by unfold M.readDec; rw [hp]
    rw [hr]
    go_enter Tryz.func106, Tryz.ntmps106
    go_wp2_with (go_at_call 128; refine (Any.strconv_ParseInt_10_at64_range Tryz.laysPI ⟨s.toArray⟩ (by omega) (by rw [hd]; exact hp) _ _ hR (Or.inr ⟨tr, pr, rfl⟩)).mono ?_; rintro e W1 ⟨N, rfl, -, -, hb⟩)
    go_wp2
    go_ret2
    exact ⟨rfl, hb⟩
theorem rc_belowV {P : Program} {f : FuncId} {args : List (AV K)} {r : AV K} (hf : FnOk P f)
    (h : ∀ (S : Nat → Prop) (w : World) (vals : List Value), (∀ b, S b → b < w.heap.size) → Go.V.D.base.inv S w → Reps Go.V.D [] S w args vals → Calls P f vals.toArray w fun e w' => ∃ u, e = .returned u ∧ Below w.heap.size w w' ∧ ∃ S' : Nat → Prop, (∀ b, S b → S' b) ∧ (∀ b, S' b → S b ∨ (w.heap.size ≤ b ∧ b < w'.heap.size)) ∧ Rep Go.V.D [] S' w' r u) : RC Go.V.D P f args [] r [] := by
  refine ⟨hf, fun ρ S w vals hs ha => ?_⟩
  have hρ : ρ = [] := by have := hs.len; simpa using this
  subst hρ
  have own : ∀ b, ¬ Own [] ([] : List (Ob K)) b := fun b hb => by
    obtain ⟨h, o, r, ho, _⟩ := hb
    simp at ho
  refine (h S w vals hs.slt hs.base ha).mono ?_
  rintro e w' ⟨u, rfl, hb, S', h1, h2, h3⟩
  refine ⟨u, [], S', rfl, ⟨rfl, fun h o r ho _ => by simp at ho, fun h h' o o' r r' b ho => by simp at ho, fun b hO => absurd hO (own b), fun b hO => ?_, Go.V.D.base.mono h1 (fun b h => hb.block b (hs.slt b h)) hs.base⟩, h3,
    ⟨hb.os, hb.tape, hb.output, hb.size, fun b hlt _ => hb.block b hlt, fun b hO => absurd hO (own b), h1, fun b hO => ?_, fun h hh => rfl⟩⟩
  · rcases h2 b hO with h | h
    · exact Nat.lt_of_lt_of_le (hs.slt b h) hb.size
    · exact h.2
  · rcases h2 b hO with h | h
    · exact .inl h
    · exact .inr (.inr h.1)
theorem dec_cases {n : Int} {r : List UInt8} (h : M.i_decimal n = some r) : (-9223372036854775808 ≤ n ∧ n ≤ 9223372036854775807) ∧ Lib.itoa n = r := by
  unfold M.i_decimal at h
  by_cases h1 : -9223372036854775808 ≤ n ∧ n ≤ 9223372036854775807
  · simp only [h1.1, h1.2, decide_true, Bool.and_true, cond_true] at h; exact ⟨h1, Option.some.inj h⟩
  · have : (decide (-9223372036854775808 ≤ n) && decide (n ≤ 9223372036854775807)) = false := by
      rw [Bool.and_eq_false_iff, decide_eq_false_iff_not, decide_eq_false_iff_not]
      exact Classical.not_and_iff_not_or_not.1 h1
    rw [this] at h; cases h
theorem split_cases {s sep : List UInt8} {r : List (List UInt8)} (h : M.strings_Split s sep = some r) : sep = [46] ∧ s.length < 4294967281 ∧ Ver.splitDot s = r := by
  unfold M.strings_Split at h
  by_cases h1 : sep = [46]
  · by_cases h2 : s.length < 4294967281
    · rw [h1] at h; simp only [h2, decide_true, beq_self_eq_true, Bool.and_true, cond_true] at h; exact ⟨h1, h2, Option.some.inj h⟩
    · simp [h2] at h
  · have : (sep == [46]) = false := beq_eq_false_iff_ne.2 h1
    rw [this] at h; simp at h
theorem ok_decimal : (con_i_decimal M.i_decimal).Ok Go.V.D Tryz.prog := by
  intro x r hr
  obtain ⟨hl, hv⟩ := dec_cases (n := x.1.1) hr
  subst hv
  refine rc_belowV ⟨Tryz.f129, Tryz.func129, by kernel_rfl, by kernel_rfl⟩ fun S w vals hS hB ha => ?_
  obtain ⟨X, rfl, hX⟩ := reps_single (x := .int .i64 x.1.1) ha
  rw [rep_int hX]
  refine (decimal_calls _ hl.1 hl.2 w (tab_of hB)).mono ?_
  rintro e w' ⟨rfl, hb⟩
  exact ⟨_, rfl, hb, S, fun _ h => h, fun _ h => .inl h, .str _⟩
theorem ok_readDecimal : (con_i_readDecimal M.i_readDecimal).Ok Go.V.D Tryz.prog := by
  intro x r hr
  obtain ⟨hl, hv⟩ : List.length (α := UInt8) x.1.1 ≤ 281474976710656 ∧ M.readDec x.1.1 = r := by
    change M.i_readDecimal x.1.1 = some r at hr
    unfold M.i_readDecimal at hr
    by_cases h : List.length (α := UInt8) x.1.1 ≤ 281474976710656
    · simp only [h, decide_true, cond_true] at hr; exact ⟨h, Option.some.inj hr⟩
    · simp [h] at hr
  subst hv
  refine rc_belowV ⟨Tryz.f106, Tryz.func106, by kernel_rfl, by kernel_rfl⟩ fun S w vals hS hB ha => ?_
  obtain ⟨X, rfl, hX⟩ := reps_single (x := .str x.1.1) ha
  rw [rep_str hX]
  obtain ⟨-, -, -, ⟨ts, ps, hs⟩, ⟨tr, pr, hr2⟩⟩ := id hB
  refine (readDecimal_calls _ hl w (tab_of hB) ts tr ps pr hs hr2).mono ?_
  rintro e w' ⟨rfl, hb⟩
  exact ⟨_, rfl, hb, S, fun _ h => h, fun _ h => .inl h, .tup (l := [.int .i64 _, .bool _]) (vs := [_, _]) rfl (Reps.cons (.int _ _) (.cons (.bool _) .nil)).2⟩
set_option maxRecDepth 100000 in
theorem split_calls (s : List UInt8) (hl : s.length < 4294967281) (m : Int) (w : World) (hm : w.cell? ⟨0, 0, none⟩ = some (.int .i64 m)) :
    Calls Tryz.prog 105 #[.string ⟨s.toArray⟩, .string ⟨#[46]⟩] w fun e w' => e = .returned (.slice (some ⟨w.heap.size, 0, none⟩) (Ver.splitDot s).length (Ver.splitDot s).length) ∧ w' = w.alloc (.cells ((Ver.splitDot s).map encStr).toArray 9) := by
  have h := Any.strings_Split Tryz.laysSplit (by kernel_rfl) ⟨s.toArray⟩ ⟨#[46]⟩ m w (by show s.toArray.size < _; simpa using hl) hm (by decide)
  have e1 := Ver.splitB_dot ⟨s.toArray⟩ ⟨#[46]⟩ rfl
  have e2 : (ByteArray.mk s.toArray).data.toList = s := by simp
  rw [e2] at e1
  have e3 : (Lib.splitB ⟨#[46]⟩ 0 (Lib.countB ⟨s.toArray⟩ ⟨#[46]⟩) ⟨s.toArray⟩).map Value.string = (Ver.splitDot s).map encStr := by
    rw [← e1, List.map_map]
    refine List.map_congr_left fun x _ => ?_
    show Value.string x = encStr x.data.toList
    simp [encStr]
  have e4 : Lib.countB ⟨s.toArray⟩ ⟨#[46]⟩ + 1 = (Ver.splitDot s).length := by
    rw [← e1, List.length_map, Lib.splitB_all ⟨#[46]⟩ (by decide) 0 _ ⟨s.toArray⟩ rfl]
  rw [e3, e4] at h
  exact h
theorem ok_split : (con_strings_Split M.strings_Split).Ok Go.V.D Tryz.prog := by
  intro x r hr
  obtain ⟨hsep, hl, hv⟩ := split_cases (s := x.1.1) (sep := x.1.2.1) hr
  subst hv
  refine rc_belowV ⟨Tryz.f105, Tryz.func105, by kernel_rfl, by kernel_rfl⟩ fun S w vals hS hB ha => ?_
  obtain ⟨X, r1, rfl, hX, hr1⟩ := Reps.uncons (v := .str x.1.1) (l := [.str x.1.2.1]) ha
  obtain ⟨Y, r2, rfl, hY, hr2⟩ := hr1.uncons
  rw [hr2.nil_iff, rep_str hX, rep_str hY, hsep]
  obtain ⟨-, ⟨m, hm⟩, -⟩ := id hB
  refine (split_calls _ hl m w hm).mono ?_
  rintro e w' ⟨rfl, rfl⟩
  generalize Ver.splitDot x.1.1 = zs
  refine ⟨_, rfl, (Below.refl _ w).alloc (Nat.le_refl _) _, fun b => S b ∨ b = w.heap.size, fun _ h => .inl h, fun b h => h.imp id fun e => by subst e; exact ⟨Nat.le_refl _, by simp⟩, ?_⟩
  refine Rep.dsl (D := Go.V.D) (c := U.str) (l := zs) (fun i => [encStr (zs[i]?.getD [])]) (Or.inr rfl) (Nat.le_refl _) (fun i y hy => rfl) (fun i hi j v hv => ?_) (fun i y hy j v u hv hu => ?_)
  · cases j with
    | zero =>
      simp at hv; subst hv
      have hz : zs[i]? = some zs[i] := List.getElem?_eq_getElem hi
      have : (w.alloc (.cells (zs.map encStr).toArray 9)).cell? ⟨w.heap.size, 0 + i * K.sz U.str + 0, none⟩ = some (encStr zs[i]) := by
        have e : 0 + i * K.sz U.str + 0 = i := by show 0 + i * 1 + 0 = i; omega
        rw [e]
        have hn : (w.alloc (.cells (zs.map encStr).toArray 9)).heap[w.heap.size]? = some (.cells (zs.map encStr).toArray 9 (0, 0)) := heap_push_new _ _
        simp only [World.cell?, hn]
        simp [hi]
      rw [this, hz]; rfl
    | succ j => simp at hv
  · cases j with
    | zero =>
      simp at hu; subst hu
      have : v = .str y := by have := hv; simp only [D, mkCod, Ucs, Uun, Sh.encs, List.getElem?_cons_zero, Option.some.injEq] at this; exact this.symm
      subst this
      rw [hy]; exact .str _
    | succ j => simp at hu
end Tryzh
end Go.Proofs
theorem ok_i_decimal : (con_i_decimal M.i_decimal).Ok Go.V.D Go.Proofs.Tryz.prog := Go.Proofs.Tryzh.ok_decimal
theorem ok_i_readDecimal : (con_i_readDecimal M.i_readDecimal).Ok Go.V.D Go.Proofs.Tryz.prog := Go.Proofs.Tryzh.ok_readDecimal
theorem ok_strings_Split : (con_strings_Split M.strings_Split).Ok Go.V.D Go.Proofs.Tryz.prog := Go.Proofs.Tryzh.ok_split
