import Derived.Test.YtfjgoefnkdcolaaXSAP1
set_option linter.unusedVariables false
set_option linter.unusedSimpArgs false
namespace M
open Go.V (bigN bigN_le)

theorem bigN_gt {n : Nat} (h : n ≤ 1048576) : n < bigN := by have := bigN_le; omega

theorem ints_s (a b : List Int) (ha : a.length ≤ 1048576) : M.s_l00Same a b = some (eqL (· == ·) a b) := by
  unfold M.s_l00Same
  exact cmp_all a b ha (fun f k hl h h' => by
    rw [M.s_l00Same_l0]
    simp only [getD_lt h, getD_lt h', Int.toNat_natCast, inB_nat, Int.ofNat_lt, h, h', wrapk h (big_of ha), decide_true, Bool.and_true, cond_true, bne_not]
    cases a[k] == b[k] <;> rfl) (fun f => by rw [M.s_l00Same_l0]; simp)
theorem ints_i (a b : List Int) (ha : a.length ≤ 1048576) : M.slices_Equal_int64_int64 a b = some (eqL (· == ·) a b) := by
  unfold M.slices_Equal_int64_int64
  exact cmp_all a b ha (fun f k hl h h' => by
    rw [M.slices_Equal_int64_int64_l0]
    simp only [getD_lt h, getD_lt h', Int.toNat_natCast, inB_nat, Int.ofNat_lt, h, h', wrapk h (big_of ha), decide_true, Bool.and_true, cond_true, bne_not]
    cases a[k] == b[k] <;> rfl) (fun f => by rw [M.slices_Equal_int64_int64_l0]; simp)

def aopEq (a b : SAop) : Bool := (a.Kind == b.Kind) && ((a.A == b.A) && (a.B == b.B))
def noteEq (a b : SNote) : Bool := (a.Task == b.Task) && ((a.Kind == b.Kind) && ((a.A == b.A) && (a.B == b.B)))
def progEq (a b : SProg) : Bool := (a.Inst == b.Inst) && eqL aopEq a.Ops b.Ops
def taskEq (a b : STask) : Bool := ((((((((((a.Id == b.Id) && (a.Prog == b.Prog)) && (a.PC == b.PC)) && (a.Parent == b.Parent)) && (a.Status == b.Status)) && (a.Result == b.Result)) && (a.Returned == b.Returned)) && (a.Asked == b.Asked)) && (a.Told == b.Told)) && eqL (· == ·) a.Subs b.Subs) && eqL (· == ·) a.Set b.Set
noncomputable def streamEq (a b : SStream) : Bool := ((((((tEq 100 a.Type_ b.Type_ && (a.Room == b.Room)) && (a.Future == b.Future)) && eqL (vEq bigN) a.Buffer b.Buffer) && (a.Put == b.Put)) && (a.Got == b.Got)) && (a.Shut == b.Shut)) && (a.Gone == b.Gone)
noncomputable def asyncEq (a b : SAsync) : Bool := (((eqL progEq a.Progs b.Progs && eqL streamEq a.Streams b.Streams) && eqL taskEq a.Tasks b.Tasks) && eqL (· == ·) a.Back b.Back) && eqL noteEq a.Notes b.Notes

theorem SProg.ops_len {a : SProg} {N : Nat} (h : a.sz ≤ N) : a.Ops.length ≤ N := by
  rw [SProg.sz_eq] at h; exact len_sz (f := SAop.sz) h

theorem type_s (a b : SType) (h : a.sz ≤ 1048576) : M.s_SameType a b = some (tEq 100 a b) := by
  unfold M.s_SameType M.s_l03Same
  have := s_type bigN a b 100 (by omega) (bigN_gt (by omega)) h
  simp only [SType.re_eq]
  rw [show (1 : Int) = 101 - ((100 : Nat) : Int) by omega, this]; rfl
theorem type_i (a b : SType) (h : a.sz ≤ 1048576) : M.i_SameType a b = some (tEq 100 a b) := by
  unfold M.i_SameType M.i_sameType
  have := i_type bigN a b 100 (by omega) (bigN_gt (by omega)) h
  simp only [SType.re_eq]
  rw [show (100 : Int) = ((100 : Nat) : Int) by omega, this]; rfl

theorem values_s (a b : List SValue) (h : szL SValue.sz a ≤ 1048576) : M.s_l21SameValues a b = some (eqL (vEq bigN) a b) := by
  unfold M.s_l21SameValues
  have ha := len_sz h
  exact cmp_all a b ha (fun f k hl h1 h2 => by
    rw [M.s_l21SameValues_l0]
    have hx := szL_mem SValue.sz _ _ (List.getElem_mem h1)
    have e := s_value bigN a[k] b[k] (by omega) (bigN_gt (by omega))
    simp only [M.s_SameValue, SValue.re_eq, getD_lt h1, getD_lt h2, Int.toNat_natCast, inB_nat, Int.ofNat_lt, h1, h2, wrapk h1 (big_of ha), e, decide_true, Bool.and_true, cond_true, Option.isSome_some, Option.getD_some]
    cases vEq bigN a[k] b[k] <;> rfl) (fun f => by rw [M.s_l21SameValues_l0]; simp)
theorem values_i' (a b : List SValue) (h : szL SValue.sz a ≤ 1048576) : M.slices_EqualFunc_Value_Value_Value_Value M.i_SameValue a b = some (eqL (vEq bigN) a b) :=
  values_i (m := bigN) h (fun x hx y => by
    have := szL_mem SValue.sz _ _ hx
    exact i_value bigN x y (by omega) (bigN_gt (by omega)))

theorem stream_s (a b : SStream) (h : a.sz ≤ 1048576) : M.s_SameStream a b = some (streamEq a b) := by
  rw [SStream.sz_eq] at h
  unfold M.s_SameStream
  simp only [SType.re_eq, values_s a.Buffer b.Buffer (by omega), type_s a.Type_ b.Type_ (by omega)]
  rfl
theorem stream_i (a b : SStream) (h : a.sz ≤ 1048576) : M.i_SameStream a b = some (streamEq a b) := by
  rw [SStream.sz_eq] at h
  unfold M.i_SameStream
  simp only [SType.re_eq, values_i' a.Buffer b.Buffer (by omega), type_i a.Type_ b.Type_ (by omega)]
  rfl

theorem task_s (a b : STask) (h : a.sz ≤ 1048576) : M.s_l22SameTask a b = some (taskEq a b) := by
  rw [STask.sz_eq] at h
  unfold M.s_l22SameTask
  simp only [ints_s a.Subs b.Subs (len_sz (f := fun _ => 0) (by omega)), ints_s a.Set b.Set (len_sz (f := fun _ => 0) (by omega))]
  rfl
theorem task_i (a b : STask) (h : a.sz ≤ 1048576) : M.i_sameTask a b = some (taskEq a b) := by
  rw [STask.sz_eq] at h
  unfold M.i_sameTask
  simp only [ints_i a.Subs b.Subs (len_sz (f := fun _ => 0) (by omega)), ints_i a.Set b.Set (len_sz (f := fun _ => 0) (by omega))]
  rfl
end M
