import Derived.Test.YtfjgoefnkdcolaaXSAP2
set_option linter.unusedVariables false
set_option linter.unusedSimpArgs false
namespace M
open Go.V (bigN bigN_le)

theorem aopEq_eq (a b : SAop) : ((a.Kind == b.Kind) && ((a.A == b.A) && (a.B == b.B))) = aopEq a b := rfl
theorem noteEq_eq (a b : SNote) : ((a.Task == b.Task) && ((a.Kind == b.Kind) && ((a.A == b.A) && (a.B == b.B)))) = noteEq a b := rfl
theorem aops_i (a b : List SAop) (ha : a.length ≤ 1048576) : M.slices_Equal_Aop_Aop a b = some (eqL aopEq a b) := by
  unfold M.slices_Equal_Aop_Aop
  exact cmp_all a b ha (fun f k hl h h' => by
    rw [M.slices_Equal_Aop_Aop_l0]
    simp only [getD_lt h, getD_lt h', Int.toNat_natCast, inB_nat, Int.ofNat_lt, h, h', wrapk h (big_of ha), decide_true, Bool.and_true, cond_true, aopEq_eq]
    cases aopEq a[k] b[k] <;> rfl) (fun f => by rw [M.slices_Equal_Aop_Aop_l0]; simp)
theorem notes_i (a b : List SNote) (ha : a.length ≤ 1048576) : M.slices_Equal_Note_Note a b = some (eqL noteEq a b) := by
  unfold M.slices_Equal_Note_Note
  exact cmp_all a b ha (fun f k hl h h' => by
    rw [M.slices_Equal_Note_Note_l0]
    simp only [getD_lt h, getD_lt h', Int.toNat_natCast, inB_nat, Int.ofNat_lt, h, h', wrapk h (big_of ha), decide_true, Bool.and_true, cond_true, noteEq_eq]
    cases noteEq a[k] b[k] <;> rfl) (fun f => by rw [M.slices_Equal_Note_Note_l0]; simp)
theorem prog_s (a b : SProg) (h : a.sz ≤ 1048576) : M.s_l22SameProg a b = some (progEq a b) := by
  have hk := SProg.ops_len h
  unfold M.s_l22SameProg
  simp only [progEq, bne_not]
  by_cases hl : a.Ops.length = b.Ops.length
  · rw [cmp_loop (p := aopEq) (F := M.s_l22SameProg_l0 a b) (e := ()) a.Ops b.Ops hk hl (fun f k h h' => by
      rw [M.s_l22SameProg_l0]
      simp only [getD_lt h, getD_lt h', Int.toNat_natCast, inB_nat, Int.ofNat_lt, h, h', wrapk h (big_of hk), decide_true, Bool.and_true, cond_true, aopEq_eq]
      cases aopEq a.Ops[k] b.Ops[k] <;> rfl) (fun f => by rw [M.s_l22SameProg_l0]; simp), hl]
    cases a.Inst == b.Inst <;> cases eqL aopEq a.Ops b.Ops <;> simp
  · rw [eqL_len _ _ _ hl]
    have : ((a.Ops.length : Int) == (b.Ops.length : Int)) = false := by rw [beq_eq_false_iff_ne]; omega
    rw [this]; simp
theorem prog_i (a b : SProg) (h : a.sz ≤ 1048576) : M.i_SameAsync_c1 a b = some (progEq a b) := by
  unfold M.i_SameAsync_c1
  simp only [aops_i a.Ops b.Ops (SProg.ops_len h)]
  rfl

theorem progs_i (a b : List SProg) (h : szL SProg.sz a ≤ 1048576) : M.slices_EqualFunc_Prog_Prog_Prog_Prog a b = some (eqL progEq a b) := by
  have ha := len_sz h
  unfold M.slices_EqualFunc_Prog_Prog_Prog_Prog
  exact cmp_all a b ha (fun f k hl h1 h2 => by
    rw [M.slices_EqualFunc_Prog_Prog_Prog_Prog_l0]
    have hx := szL_mem SProg.sz _ _ (List.getElem_mem h1)
    simp only [getD_lt h1, getD_lt h2, Int.toNat_natCast, inB_nat, Int.ofNat_lt, h1, h2, wrapk h1 (big_of ha), prog_i a[k] b[k] (by omega), decide_true, Bool.and_true, cond_true, Option.isSome_some, Option.getD_some]
    cases progEq a[k] b[k] <;> rfl) (fun f => by rw [M.slices_EqualFunc_Prog_Prog_Prog_Prog_l0]; simp)
theorem tasks_i (a b : List STask) (h : szL STask.sz a ≤ 1048576) : M.slices_EqualFunc_Task_Task_Task_Task a b = some (eqL taskEq a b) := by
  have ha := len_sz h
  unfold M.slices_EqualFunc_Task_Task_Task_Task
  exact cmp_all a b ha (fun f k hl h1 h2 => by
    rw [M.slices_EqualFunc_Task_Task_Task_Task_l0]
    have hx := szL_mem STask.sz _ _ (List.getElem_mem h1)
    simp only [getD_lt h1, getD_lt h2, Int.toNat_natCast, inB_nat, Int.ofNat_lt, h1, h2, wrapk h1 (big_of ha), task_i a[k] b[k] (by omega), decide_true, Bool.and_true, cond_true, Option.isSome_some, Option.getD_some]
    cases taskEq a[k] b[k] <;> rfl) (fun f => by rw [M.slices_EqualFunc_Task_Task_Task_Task_l0]; simp)
theorem streams_i (a b : List SStream) (h : szL SStream.sz a ≤ 1048576) : M.slices_EqualFunc_Stream_Stream_Stream_Stream a b = some (eqL streamEq a b) := by
  have ha := len_sz h
  unfold M.slices_EqualFunc_Stream_Stream_Stream_Stream
  exact cmp_all a b ha (fun f k hl h1 h2 => by
    rw [M.slices_EqualFunc_Stream_Stream_Stream_Stream_l0]
    have hx := szL_mem SStream.sz _ _ (List.getElem_mem h1)
    simp only [SStream.re_eq, getD_lt h1, getD_lt h2, Int.toNat_natCast, inB_nat, Int.ofNat_lt, h1, h2, wrapk h1 (big_of ha), stream_i a[k] b[k] (by omega), decide_true, Bool.and_true, cond_true, Option.isSome_some, Option.getD_some]
    cases streamEq a[k] b[k] <;> rfl) (fun f => by rw [M.slices_EqualFunc_Stream_Stream_Stream_Stream_l0]; simp)

theorem async_i (a b : SAsync) (h : a.sz ≤ 1048576) : M.i_SameAsync a b = some (asyncEq a b) := by
  rw [SAsync.sz_eq] at h
  unfold M.i_SameAsync
  simp only [progs_i a.Progs b.Progs (by omega), streams_i a.Streams b.Streams (by omega), tasks_i a.Tasks b.Tasks (by omega), ints_i a.Back b.Back (len_sz (f := fun _ => 0) (by omega)), notes_i a.Notes b.Notes (len_sz (f := SNote.sz) (by omega))]
  rfl

theorem progs_s {a b : SAsync} (h : szL SProg.sz a.Progs ≤ 1048576) (hl : a.Progs.length = b.Progs.length) : M.s_SameAsync_l0 a b bigN 0 = some (if eqL progEq a.Progs b.Progs then .inr (a, b) else .inl false) := by
  have ha := len_sz h
  exact cmp_loop (p := progEq) (F := M.s_SameAsync_l0 a b) (e := (a, b)) a.Progs b.Progs ha hl (fun f k h1 h2 => by
    rw [M.s_SameAsync_l0]
    have hx := szL_mem SProg.sz _ _ (List.getElem_mem h1)
    simp only [getD_lt h1, getD_lt h2, Int.toNat_natCast, inB_nat, Int.ofNat_lt, h1, h2, wrapk h1 (big_of ha), prog_s a.Progs[k] b.Progs[k] (by omega), decide_true, Bool.and_true, cond_true, Option.isSome_some, Option.getD_some]
    cases progEq a.Progs[k] b.Progs[k] <;> rfl) (fun f => by rw [M.s_SameAsync_l0]; simp)
theorem streams_s {a b : SAsync} (h : szL SStream.sz a.Streams ≤ 1048576) (hl : a.Streams.length = b.Streams.length) : M.s_SameAsync_l1 a b bigN 0 = some (if eqL streamEq a.Streams b.Streams then .inr (a, b) else .inl false) := by
  have ha := len_sz h
  exact cmp_loop (p := streamEq) (F := M.s_SameAsync_l1 a b) (e := (a, b)) a.Streams b.Streams ha hl (fun f k h1 h2 => by
    rw [M.s_SameAsync_l1]
    have hx := szL_mem SStream.sz _ _ (List.getElem_mem h1)
    simp only [SStream.re_eq, getD_lt h1, getD_lt h2, Int.toNat_natCast, inB_nat, Int.ofNat_lt, h1, h2, wrapk h1 (big_of ha), stream_s a.Streams[k] b.Streams[k] (by omega), decide_true, Bool.and_true, cond_true, Option.isSome_some, Option.getD_some]
    cases streamEq a.Streams[k] b.Streams[k] <;> rfl) (fun f => by rw [M.s_SameAsync_l1]; simp)
theorem tasks_s {a b : SAsync} (h : szL STask.sz a.Tasks ≤ 1048576) (hl : a.Tasks.length = b.Tasks.length) : M.s_SameAsync_l2 a b bigN 0 = some (if eqL taskEq a.Tasks b.Tasks then .inr (a, b) else .inl false) := by
  have ha := len_sz h
  exact cmp_loop (p := taskEq) (F := M.s_SameAsync_l2 a b) (e := (a, b)) a.Tasks b.Tasks ha hl (fun f k h1 h2 => by
    rw [M.s_SameAsync_l2]
    have hx := szL_mem STask.sz _ _ (List.getElem_mem h1)
    simp only [getD_lt h1, getD_lt h2, Int.toNat_natCast, inB_nat, Int.ofNat_lt, h1, h2, wrapk h1 (big_of ha), task_s a.Tasks[k] b.Tasks[k] (by omega), decide_true, Bool.and_true, cond_true, Option.isSome_some, Option.getD_some]
    cases taskEq a.Tasks[k] b.Tasks[k] <;> rfl) (fun f => by rw [M.s_SameAsync_l2]; simp)
theorem notes_s {a b : SAsync} (ha : a.Notes.length ≤ 1048576) (hl : a.Notes.length = b.Notes.length) : M.s_SameAsync_l3 a b bigN 0 = some (if eqL noteEq a.Notes b.Notes then .inr () else .inl false) :=
  cmp_loop (p := noteEq) (F := M.s_SameAsync_l3 a b) (e := ()) a.Notes b.Notes ha hl (fun f k h1 h2 => by
    rw [M.s_SameAsync_l3]
    simp only [getD_lt h1, getD_lt h2, Int.toNat_natCast, inB_nat, Int.ofNat_lt, h1, h2, wrapk h1 (big_of ha), decide_true, Bool.and_true, cond_true, noteEq_eq]
    cases noteEq a.Notes[k] b.Notes[k] <;> rfl) (fun f => by rw [M.s_SameAsync_l3]; simp)

theorem len_eq {α β : Type} {a : List α} {b : List β} (h : a.length = b.length) : ((a.length : Int) != (b.length : Int)) = false := by rw [h]; simp
theorem len_ne {α β : Type} {a : List α} {b : List β} (h : a.length ≠ b.length) : ((a.length : Int) != (b.length : Int)) = true := by rw [bne_iff_ne]; omega

theorem async_s (a b : SAsync) (h : a.sz ≤ 1048576) : M.s_SameAsync a b = some (asyncEq a b) := by
  rw [SAsync.sz_eq] at h
  unfold M.s_SameAsync asyncEq
  simp only [ints_s a.Back b.Back (len_sz (f := fun _ => 0) (by omega)), Option.isSome_some, Bool.true_or, Bool.and_true, Option.getD_some, cond_true]
  by_cases h1 : a.Progs.length = b.Progs.length
  · by_cases h2 : a.Streams.length = b.Streams.length
    · by_cases h3 : a.Tasks.length = b.Tasks.length
      · by_cases h4 : a.Notes.length = b.Notes.length
        · simp only [len_eq h1, len_eq h2, len_eq h3, len_eq h4, progs_s (show szL SProg.sz a.Progs ≤ 1048576 by omega) h1, Bool.or_false, Bool.false_or]
          cases eqL progEq a.Progs b.Progs
          · cases eqL (· == ·) a.Back b.Back <;> simp
          · simp only [if_true, streams_s (show szL SStream.sz a.Streams ≤ 1048576 by omega) h2]
            cases eqL streamEq a.Streams b.Streams
            · cases eqL (· == ·) a.Back b.Back <;> simp
            · simp only [if_true, tasks_s (show szL STask.sz a.Tasks ≤ 1048576 by omega) h3]
              cases eqL taskEq a.Tasks b.Tasks
              · cases eqL (· == ·) a.Back b.Back <;> simp
              · simp only [if_true, notes_s (len_sz (f := SNote.sz) (show szL SNote.sz a.Notes ≤ 1048576 by omega)) h4]
                cases eqL noteEq a.Notes b.Notes <;> cases eqL (· == ·) a.Back b.Back <;> simp
        · rw [len_ne h4, eqL_len _ _ _ h4]; simp
      · rw [len_ne h3, eqL_len _ _ _ h3]; simp
    · rw [len_ne h2, eqL_len _ _ _ h2]; simp
  · rw [len_ne h1, eqL_len _ _ _ h1]; simp

theorem law_SameAsync (x y : SAsync) (hx : x.Ok) (hy : y.Ok) : M.l_FnExactSameAsync x y = some true := by
  unfold M.l_FnExactSameAsync
  rw [sz_Async x 1048576 hx (by omega) (by omega)]
  by_cases h1 : (x.sz : Int) ≤ 1048576
  · have n1 : ¬ (1048576 - (x.sz : Int) < 0) := by omega
    rw [if_pos h1]
    simp only [Option.getD_some, Option.isSome_some, n1, decide_false, cond_false, sz_Async y (1048576 - (x.sz : Int)) hy (by omega) (by omega)]
    by_cases h2 : (y.sz : Int) ≤ 1048576 - x.sz
    · rw [if_pos h2]
      have n2 : ¬ (1048576 - (x.sz : Int) - y.sz < 0) := by omega
      simp only [to_Async x (by omega), to_Async y (by omega), async_i x y (by omega), async_s x y (by omega), eq_Async x (by omega), eq_Async y (by omega), Option.getD_some, Option.isSome_some, n1, n2, decide_false, cond_false, Bool.and_true, cond_true, beq_self_eq_true, Bool.not_true]
    · rw [if_neg h2]
      simp [n1]
  · rw [if_neg h1]; simp
end M
